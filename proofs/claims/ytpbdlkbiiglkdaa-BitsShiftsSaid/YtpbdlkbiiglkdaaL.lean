/- The law BitsShifts, walked. -/
import Derived.Test.YtpbdlkbiiglkdaaK
set_option linter.unusedVariables false
set_option linter.unusedSimpArgs false
namespace Go.Proofs.Ytpbdlkbiiglkdaa
open Go.RowKit Go.Proofs.YtpbdlkbiiglkdaaW.PrintWords Go.Proofs.YtpbdlkbiiglkdaaW.PrintLast Go.Proofs.YtpbdlkbiiglkdaaW.PrintMore Go.Proofs.Cab

set_option maxHeartbeats 4000000 in
set_option maxRecDepth 100000 in
theorem BitsShifts_any (A0 : Option Addr) (c0 : Nat) (l0 : List Int) (A1 : Option Addr) (c1 : Nat) (l1 : List Int) (w : World)
    (hr0 : Kd.C (Kd.int .i64) w A0 l0.length l0) (hc0 : l0.length ≤ c0) (hr1 : Kd.C (Kd.int .i64) w A1 l1.length l1) (hc1 : l1.length ≤ c1) :
    Calls Try.prog 3 #[.slice A0 l0.length c0, .slice A1 l1.length c1] w fun e w' => e = .returned (.bool true) ∧ Below w.heap.size w w' := by
  have HR0 := Aside0.mk hr0
  have HC0 := Aside0.mk hc0
  have HR1 := Aside0.mk hr1
  have HC1 := Aside0.mk hc1
  clear hr0 hc0 hr1 hc1
  have hu22 := Try.underlying22
  go_enter Try.func3, Try.ntmps3
  by_cases h0 : (l0.length : Int) > 3000
  · have h0b := decide_eq_true h0
    go_wp2_with fail
    refine (known_any _).mono ?_
    rintro e w1 ⟨rfl, hb⟩
    have HB := Aside0.mk hb
    clear hb
    go_wp2_with fail
    go_ret
    exact ⟨rfl, HB.out⟩
  · have h0b := decide_eq_false h0
    by_cases h1 : (l1.length : Int) > 3000
    · have h1b := decide_eq_true h1
      go_wp2_with fail
      refine (known_any _).mono ?_
      rintro e w1 ⟨rfl, hb⟩
      have HB := Aside0.mk hb
      clear hb
      go_wp2_with fail
      go_ret
      exact ⟨rfl, HB.out⟩
    · have h1b := decide_eq_false h1
      go_wp2_with fail
      refine (Shift_any A0 c0 l0 A1 c1 l1 _ HR0.out HC0.out HR1.out HC1.out).mono ?_
      rintro e w1 ⟨v, rfl, ho, hb⟩
      obtain ⟨A2, c2, rfl, hc2, hr2⟩ := ho.slice
      have HR2 := Aside0.mk hr2
      have HC2 := Aside0.mk hc2
      have HB1 := Aside0.mk hb
      clear ho hc2 hr2 hb
      go_wp2_with fail
      refine (ShiftR_any A0 c0 l0 A1 c1 l1 _ (Kd.C_below HR0.out HB1.out) HC0.out (Kd.C_below HR1.out HB1.out) HC1.out (by omega) (by omega)).mono ?_
      rintro e w2 ⟨v, rfl, ho, hb⟩
      obtain ⟨A3, c3, rfl, hc3, hr3⟩ := ho.slice
      have HR3 := Aside0.mk hr3
      have HC3 := Aside0.mk hc3
      have HB2 := Aside0.mk hb
      clear ho hc3 hr3 hb
      go_wp2_with fail
      refine (SameInts_any A2 c2 _ A3 c3 _ _ (Kd.C_below HR2.out HB2.out) HC2.out HR3.out HC3.out).mono ?_
      rintro e w3 ⟨rfl, hb⟩
      have HB3 := Aside0.mk hb
      rw [show decide (shiftL l0 l1 = shiftL l0 l1) = true from decide_eq_true rfl]
      clear hb
      go_wp2_with fail
      refine (known_any _).mono ?_
      rintro e w4 ⟨rfl, hb⟩
      have HB4 := Aside0.mk hb
      clear hb
      go_wp2_with fail
      go_ret
      exact ⟨rfl, below_step (below_step (below_step HB1.out HB2.out) HB3.out) HB4.out⟩
end Go.Proofs.Ytpbdlkbiiglkdaa

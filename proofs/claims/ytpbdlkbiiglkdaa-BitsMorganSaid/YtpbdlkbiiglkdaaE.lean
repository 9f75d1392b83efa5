/- BinarySearch, Shift. -/
import Derived.Test.YtpbdlkbiiglkdaaD
set_option linter.unusedVariables false
set_option linter.unusedSimpArgs false
namespace Go.Proofs.Ytpbdlkbiiglkdaa
open Go.RowKit Go.Proofs.YtpbdlkbiiglkdaaW.PrintWords Go.Proofs.YtpbdlkbiiglkdaaW.PrintLast Go.Proofs.YtpbdlkbiiglkdaaW.PrintMore Go.Proofs.Cab

theorem isNaN_any (x : Int) (w : World) : Calls Try.prog 75 #[.int .i64 x] w fun e w' => e = .returned (.bool false) ∧ w = w' := by
  go_enter Try.func75, Try.ntmps75
  go_wp2
  go_ret
  exact ⟨by simp, rfl⟩
theorem isNaN2_any (x : Int) (w : World) : Calls Try.prog 74 #[.int .i64 x] w fun e w' => e = .returned (.bool false) ∧ w = w' := by
  go_enter Try.func74, Try.ntmps74
  go_wp2
  go_ret
  exact ⟨by simp, rfl⟩
theorem Less_any (x y : Int) (w : World) : Calls Try.prog 73 #[.int .i64 x, .int .i64 y] w fun e w' => e = .returned (.bool (decide (x < y))) ∧ w = w' := by
  go_enter Try.func73, Try.ntmps73
  go_wp2_with fail
  refine (isNaN_any x _).mono ?_
  rintro e w' ⟨rfl, rfl⟩
  go_wp2_with fail
  go_ret
  exact ⟨by simp, rfl⟩

/-- Where a number stands in an ascending list. -/
def BSPost (l0 : List Int) (t : Int) (w : World) (e : Ending) (w' : World) : Prop :=
  ∃ (i : Nat) (b : Bool), e = .returned (.tuple #[.int .i64 (i : Int), .bool b]) ∧ i ≤ l0.length ∧ (∀ k (h : k < l0.length), k < i → l0[k] < t) ∧ (∀ k (h : k < l0.length), i ≤ k → t ≤ l0[k]) ∧ w = w'
set_option maxHeartbeats 4000000 in
set_option maxRecDepth 100000 in
theorem BinarySearch_any (A0 : Option Addr) (c0 : Nat) (l0 : List Int) (t : Int) (w : World) (hr0 : Kd.C (Kd.int .i64) w A0 l0.length l0) (hc0 : l0.length ≤ c0) (hn : l0.length ≤ 3000) (hs : l0.Pairwise (· < ·)) :
    Calls Try.prog 71 #[.slice A0 l0.length c0, .int .i64 t] w (BSPost l0 t w) := by
  have HR0 := Aside0.mk hr0
  have HC0 := Aside0.mk hc0
  clear hr0 hc0
  have HS := Aside0.mk hs
  clear hs
  go_enter Try.func71, Try.ntmps71
  go_wp2
  go_loop [7, 8] (fun v7 v8 => ∃ i j : Nat, v7 = .int .i64 (i : Int) ∧ v8 = .int .i64 (j : Int) ∧ i ≤ j ∧ j ≤ l0.length ∧ Aside0 (∀ k (h : k < l0.length), k < i → l0[k] < t) ∧ Aside0 (∀ k (h : k < l0.length), j ≤ k → t ≤ l0[k])) (fun v7 v8 => (intOf v8 - intOf v7).toNat)
  case atStart => exact ⟨0, l0.length, rfl, rfl, by omega, by omega, ⟨fun k h hk => by omega⟩, ⟨fun k h hk => by omega⟩⟩
  case round =>
    obtain ⟨i, j, rfl, rfl, hij, hj, HL, HG⟩ := hrel
    by_cases hlt : i < j
    · have p0 : 0 ≤ ((i : Int) + j) / 2 := by omega
      have q0 : ((i : Int) + j) / 2 < (l0.length : Int) := by omega
      obtain ⟨ad, rfl, hcell⟩ := Kd.at_int HR0.out (((i : Int) + j) / 2) p0 q0
      obtain ⟨m, hm⟩ : ∃ m : Nat, ((i : Int) + j) / 2 = (m : Int) := ⟨(((i : Int) + j) / 2).toNat, by omega⟩
      have HM := Aside0.mk (show i ≤ m ∧ m < j by omega)
      have HMe := Aside0.mk hm
      have hml : m < l0.length := by omega
      have hrd : rd l0 (((i : Int) + j) / 2) = l0[m] := by rw [hm]; exact rd_at l0 m hml
      rw [hrd, show (((i : Int) + j) / 2).toNat = (i + j) / 2 by omega] at hcell
      have HS' : Aside0 (∀ a b (ha : a < l0.length) (hb : b < l0.length), a < b → l0[a] < l0[b]) := ⟨fun a b ha hb h => List.pairwise_iff_getElem.1 HS.out a b ha hb h⟩
      clear hm hrd
      by_cases hc : l0[m] < t
      · have hcd : decide (l0[m] < t) = true := by simpa using hc
        have HC := Aside0.mk hc
        clear hc
        go_wp2_with fail
        refine (Less_any _ _ _).mono ?_
        rintro e w' ⟨rfl, rfl⟩
        simp only [hcd]
        go_wp2_with fail
        go_round
        case rel => exact ⟨m + 1, j, by rw [HMe.out]; rfl, rfl, by have := HM.out; omega, hj, ⟨fun k h hk => by
          rcases Nat.lt_or_ge k m with h1 | h1
          · exact Int.lt_trans (HS'.out k m h hml h1) HC.out
          · obtain rfl : k = m := by omega
            exact HC.out⟩, HG⟩
        case measure => simp [intOf]; have := HM.out; have := HMe.out; omega
      · have hcd : decide (l0[m] < t) = false := by simpa using hc
        have HC := Aside0.mk (Int.not_lt.1 hc)
        clear hc
        go_wp2_with fail
        refine (Less_any _ _ _).mono ?_
        rintro e w' ⟨rfl, rfl⟩
        simp only [hcd]
        go_wp2_with fail
        go_round
        case rel => exact ⟨i, m, rfl, by rw [HMe.out], by have := HM.out; omega, by omega, HL, ⟨fun k h hk => by
          rcases Nat.lt_or_ge m k with h1 | h1
          · exact Int.le_trans HC.out (Int.le_of_lt (HS'.out m k hml h h1))
          · obtain rfl : k = m := by omega
            exact HC.out⟩⟩
        case measure => simp [intOf]; have := HM.out; have := HMe.out; omega
    · obtain rfl : i = j := by omega
      by_cases hin : i < l0.length
      · obtain ⟨ad, rfl, hcell⟩ := Kd.at_int HR0.out (i : Int) (by omega) (by omega)
        rw [rd_at l0 i hin] at hcell
        have hcell : w.cell? (ad.add i) = some (.int .i64 l0[i]) := by simpa using hcell
        obtain ⟨y, hy⟩ : ∃ y, l0[i] = y := ⟨_, rfl⟩
        rw [hy] at hcell
        clear hy
        by_cases he : y = t
        · have he1 : (y == t) = true := by simpa using he
          clear he
          go_wp2_with fail
          go_ret2
          exact ⟨i, true, rfl, hj, HL.out, HG.out, rfl⟩
        · have he1 : (y == t) = false := by simpa using he
          clear he
          go_wp2_with fail

          refine (isNaN2_any _ _).mono ?_
          rintro e w' ⟨rfl, rfl⟩
          go_wp2_with fail
          go_ret2
          exact ⟨i, false, rfl, hj, HL.out, HG.out, rfl⟩
      · have hge : decide ((i : Int) < (l0.length : Int)) = false := by simp; omega
        go_wp2_with fail
        go_ret2
        exact ⟨i, false, rfl, hj, HL.out, HG.out, rfl⟩
theorem enters70 : ∀ args W, (callFunc 70 args).run Try.prog W = .ok (.enter 70 args) W := Go.Proofs.YtpbdlkbiiglkdaaW.PrintLast.enters_ Try.func70 (by kernel_rfl) rfl
/-- How many elements are less. -/
def below (l : List Int) (x : Int) : Nat := (l.filter (fun y => decide (y < x))).length
theorem below_of {l : List Int} {x : Int} {i : Nat} (hi : i ≤ l.length) (h1 : ∀ k (h : k < l.length), k < i → l[k] < x) (h2 : ∀ k (h : k < l.length), i ≤ k → x ≤ l[k]) : below l x = i := by
  have e : l = l.take i ++ l.drop i := (List.take_append_drop i l).symm
  unfold below
  rw [e, List.filter_append, List.length_append]
  have a : (l.take i).filter (fun y => decide (y < x)) = l.take i := by
    rw [List.filter_eq_self]
    intro y hy
    obtain ⟨k, hk, rfl⟩ := List.mem_iff_getElem.1 hy
    simp only [List.getElem_take, decide_eq_true_eq]
    rw [List.length_take] at hk
    exact h1 k (by omega) (by omega)
  have b : (l.drop i).filter (fun y => decide (y < x)) = [] := by
    rw [List.filter_eq_nil_iff]
    intro y hy
    obtain ⟨k, hk, rfl⟩ := List.mem_iff_getElem.1 hy
    simp only [List.getElem_drop, decide_eq_true_eq]
    rw [List.length_drop] at hk
    have := h2 (i + k) (by omega) (by omega)
    omega
  rw [a, b, List.length_take]
  simp
  omega
set_option maxHeartbeats 4000000 in
set_option maxRecDepth 100000 in
theorem moved_any (B : Nat) (A0 : Option Addr) (c0 : Nat) (l0 : List Int) (x : Int) (w : World) (hB : w.cell? ⟨B, 0, none⟩ = some (.slice A0 l0.length c0)) (hr0 : Kd.C (Kd.int .i64) w A0 l0.length l0) (hc0 : l0.length ≤ c0) (hn : l0.length ≤ 3000) (hs : l0.Pairwise (· < ·)) (hx : -10000 ≤ x ∧ x ≤ 10000) :
    Calls Try.prog 70 #[.int .i64 x, .pointer (some ⟨B, 0, none⟩)] w fun e w' => e = .returned (.int .i64 (x - below l0 x)) ∧ w = w' := by
  have HR0 := Aside0.mk hr0
  have HC0 := Aside0.mk hc0
  clear hr0 hc0
  have HS := Aside0.mk hs
  obtain ⟨hx1, hx2⟩ := hx
  clear hs
  go_enter Try.func70, Try.ntmps70
  go_wp2_with fail
  refine (BinarySearch_any A0 c0 l0 x _ HR0.out HC0.out hn HS.out).mono ?_
  rintro e w' ⟨i, b, rfl, hi, h1, h2, rfl⟩
  have HI := Aside0.mk (below_of hi h1 h2)
  have hi' : (i : Int) ≤ 3000 := by omega
  clear h1 h2
  go_wp2_with fail
  go_ret
  exact ⟨by rw [HI.out]; rfl, rfl⟩
end Go.Proofs.Ytpbdlkbiiglkdaa

/- SameInts, same, known. -/
import Derived.Test.YtpbdlkbiiglkdaaH
set_option linter.unusedVariables false
set_option linter.unusedSimpArgs false
namespace Go.Proofs.Ytpbdlkbiiglkdaa
open Go.RowKit Go.Proofs.YtpbdlkbiiglkdaaW.PrintWords Go.Proofs.YtpbdlkbiiglkdaaW.PrintLast Go.Proofs.YtpbdlkbiiglkdaaW.PrintMore Go.Proofs.Cab

theorem sameInts_l0 (a b : List Int) (he : a.length = b.length) (hl : a.length ≤ 9223372036854775807) : ∀ (d i : Nat), a.length - i = d → i ≤ a.length →
    PAll.cabinetryref01_SameInts.l0 (d + 1) a b (i : Int) = some (decide (a.drop i = b.drop i))
  | 0, i, hd, hi => by
    obtain rfl : i = a.length := by omega
    rw [PAll.cabinetryref01_SameInts.l0, if_neg (by omega), List.drop_length, he, List.drop_length]
    rfl
  | d + 1, i, hd, hi => by
    have hlt : i < a.length := by omega
    have hltb : i < b.length := by omega
    rw [PAll.cabinetryref01_SameInts.l0, if_pos (by omega), if_pos (by omega), if_pos (by omega), rd_at a i hlt, rd_at b i hltb, drop_at a i hlt, drop_at b i hltb]
    by_cases h : a[i] = b[i]
    · rw [if_pos h, wrap_id (by omega) (by omega), show (i : Int) + 1 = ((i + 1 : Nat) : Int) by omega, sameInts_l0 a b he hl d (i + 1) (by omega) (by omega)]
      rw [h]
      exact congrArg some (decide_eq_decide.2 ⟨fun e => by rw [e], fun e => (List.cons.inj e).2⟩)
    · rw [if_neg h]
      exact congrArg some (decide_eq_false fun e => h (List.cons.inj e).1).symm
theorem sameInts_f (a b : List Int) (hl : a.length ≤ 9223372036854775807) : ∃ k, PAll.cabinetryref01_SameInts.f k a b = some (decide (a = b)) := by
  by_cases h : a.length = b.length
  · refine ⟨a.length + 1, ?_⟩
    rw [PAll.cabinetryref01_SameInts.f, if_pos (by omega)]
    have := sameInts_l0 a b h hl a.length 0 (by omega) (by omega)
    simpa using this
  · refine ⟨0, ?_⟩
    rw [PAll.cabinetryref01_SameInts.f, if_neg (by omega)]
    congr 1
    symm
    rw [decide_eq_false_iff_not]
    rintro rfl
    exact h rfl
theorem SameInts_any (A0 : Option Addr) (c0 : Nat) (l0 : List Int) (A1 : Option Addr) (c1 : Nat) (l1 : List Int) (w : World)
    (hr0 : Kd.C (Kd.int .i64) w A0 l0.length l0) (hc0 : l0.length ≤ c0) (hr1 : Kd.C (Kd.int .i64) w A1 l1.length l1) (hc1 : l1.length ≤ c1) :
    Calls Try.prog 15 #[.slice A0 l0.length c0, .slice A1 l1.length c1] w fun e w' => e = .returned (.bool (decide (l0 = l1))) ∧ Below w.heap.size w w' := by
  obtain ⟨k, hk⟩ := sameInts_f l0 l1 hr0.2.1
  refine (PAll.cabinetryref01_SameInts.calls k A0 c0 l0 A1 c1 l1 _ w hr0 hc0 hr1 hc1 hk).mono ?_
  rintro e w' ⟨rfl, n, rfl⟩
  exact ⟨rfl, pw_below_drewN (Below.refl _ _) n⟩
theorem sameInts_lift (a b : List Int) : ∀ (n k : Nat) (r : Bool), PAll.cabinetryref01_SameInts.f k a b = some r → PAll.cabinetryref01_SameInts.f (k + n) a b = some r
  | 0, k, r, h => h
  | n + 1, k, r, h => PAll.cabinetryref01_SameInts.mono a b (k + n) r (sameInts_lift a b n k r h)
theorem same_any (A0 : Option Addr) (c0 : Nat) (l0 : List Int) (A1 : Option Addr) (c1 : Nat) (l1 : List Int) (B0 : Option Addr) (d0 : Nat) (m0 : List Int) (B1 : Option Addr) (d1 : Nat) (m1 : List Int) (w : World)
    (hr0 : Kd.C (Kd.int .i64) w A0 l0.length l0) (hc0 : l0.length ≤ c0) (hr1 : Kd.C (Kd.int .i64) w A1 l1.length l1) (hc1 : l1.length ≤ c1)
    (hs0 : Kd.C (Kd.int .i64) w B0 m0.length m0) (hd0 : m0.length ≤ d0) (hs1 : Kd.C (Kd.int .i64) w B1 m1.length m1) (hd1 : m1.length ≤ d1) :
    Calls Try.prog 21 #[.agg #[.slice A0 l0.length c0, .slice A1 l1.length c1], .agg #[.slice B0 m0.length d0, .slice B1 m1.length d1]] w fun e w' =>
      e = .returned (.bool (decide (l0 = m0) && decide (l1 = m1))) ∧ Below w.heap.size w w' := by
  obtain ⟨k, hk⟩ := sameInts_f l0 m0 hr0.2.1
  obtain ⟨j, hj⟩ := sameInts_f l1 m1 hr1.2.1
  refine PAll.cabinetrylaw12_same.calls (k + j) A0 c0 l0 A1 c1 l1 B0 d0 m0 B1 d1 m1 _ w hr0 hc0 hr1 hc1 hs0 hd0 hs1 hd1 ?_
  rw [PAll.cabinetrylaw12_same.f, sameInts_lift _ _ j k _ hk, Option.bind_some, Nat.add_comm k j, sameInts_lift _ _ k j _ hj]
  by_cases h : l0 = m0 <;> simp [h]
theorem own_fresh (W : World) (n : Nat) (l : List Int) (hn : n ≤ W.heap.size) (hl : l.length ≤ 9223372036854775807) : Own (W.alloc (.cells (l.map fun x => Value.int .i64 x).toArray 3)) n (.slice (some ⟨W.heap.size, 0, none⟩) l.length l.length) l :=
  Kd.R_of_own (by simpa [nums, encs] using own_lit W n 3 .i64 l hn hl) (fun _ _ => trivial)

theorem alloc_size (w : World) (o : Obj) : (w.alloc o).heap.size = w.heap.size + 1 := Array.size_push _
theorem fresh_C {W W' : World} {n : Nat} (l : List Int) (hn : W.heap.size = n) (hl : l.length ≤ 9223372036854775807) (hb : Below (W.alloc (.cells (l.map fun x => Value.int .i64 x).toArray 3)).heap.size (W.alloc (.cells (l.map fun x => Value.int .i64 x).toArray 3)) W') :
    Kd.C (Kd.int .i64) W' (some ⟨n, 0, none⟩) l.length l := by
  subst hn
  have h := (own_fresh W 0 l (by omega) hl).below (w1 := W') hb
  obtain ⟨A, c, he, hc, hr⟩ := h.slice
  injection he with h1 h2 h3
  rw [h1]
  exact hr
set_option maxRecDepth 100000 in
theorem k_bothE : bothE [1] [1, 2] [2] [1, 2] = 0 := by simp [bothE, valE, setB, setFrom, lessF, joinF]
set_option maxRecDepth 100000 in
theorem k_bothL0 : bothL (fun a b => a && b) [1] [1, 2] [2] [1, 2] [1] [2] = [] := by simp [bothL, valE, setB, setFrom, lessF, joinF]
set_option maxRecDepth 100000 in
theorem k_bothL1 : bothL (fun a b => a && b) [1] [1, 2] [2] [1, 2] [1, 2] [1, 2] = [1, 2] := by simp [bothL, valE, setB, setFrom, lessF, joinF]
theorem k_packE : knownE [2, 3, 5] = 0 := by simp [knownE, setB, setFrom]
set_option maxRecDepth 100000 in
theorem k_packL : packL [2, 3, 5] = [1, 1, 1, 0] := by decide
theorem k_shiftE : shiftE [2, 4, 6] [1, 4] = 0 := by simp [shiftE, setB, setFrom]
set_option maxRecDepth 100000 in
theorem k_shiftL : shiftL [2, 4, 6] [1, 4] = [1, 4] := by simp [shiftL, shiftF, below, lessF, joinF, setB, setFrom]

set_option maxHeartbeats 4000000 in
set_option maxRecDepth 100000 in
theorem known_any (w : World) : Calls Try.prog 12 #[] w fun e w' => e = .returned (.bool true) ∧ Below w.heap.size w w' := by
  have hu29 := Try.underlying29
  have hu22 := Try.underlying22
  go_enter Try.func12, Try.ntmps12
  go_wp2_with fail
  refine (And_any (some ⟨w.heap.size, 0, none⟩) 1 [1] (some ⟨w.heap.size + 1, 0, none⟩) 2 [1, 2] (some ⟨w.heap.size + 1 + 1, 0, none⟩) 1 [2] (some ⟨w.heap.size + 1 + 1 + 1, 0, none⟩) 2 [1, 2] _ ?_ ?_ ?_ ?_ ?_ ?_ ?_ ?_).mono ?_
  any_goals decide
  · exact fresh_C [1] (by simp only [alloc_size]) (by decide) (below_alloc (below_alloc (below_alloc (Below.refl _ _) _) _) _)
  · exact fresh_C (W := w.alloc _) [1, 2] (by simp only [alloc_size]) (by decide) (below_alloc (below_alloc (Below.refl _ _) _) _)
  · exact fresh_C (W := (w.alloc _).alloc _) [2] (by simp only [alloc_size]) (by decide) (below_alloc (Below.refl _ _) _)
  · exact fresh_C (W := ((w.alloc _).alloc _).alloc _) [1, 2] (by simp only [alloc_size]) (by decide) (Below.refl _ _)
  rintro e w1 ⟨v0, v1, rfl, ho0, ho1, hb⟩
  rw [k_bothL0] at ho0
  rw [k_bothL1] at ho1
  rw [k_bothE]
  have HB0 : Aside0 (Below w.heap.size w w1) := ⟨below_step (below_alloc (below_alloc (below_alloc (below_alloc (Below.refl _ _) _) _) _) _) hb⟩
  obtain ⟨A0, c0, rfl, hc0, hr0⟩ := ho0.slice
  obtain ⟨A1, c1, rfl, hc1, hr1⟩ := ho1.slice
  have HR0 := Aside0.mk hr0
  have HR1 := Aside0.mk hr1
  clear ho0 ho1 hb hr0 hr1
  have BK : Aside0 ((w1.alloc (.cells #[.slice A0 0 c0, .slice A1 2 c1] 29)).heap[w1.heap.size]? = some (.cells #[.slice A0 0 c0, .slice A1 2 c1] 29 (0, 0))) := ⟨blk_new _ _⟩
  have HB1 : Aside0 (Below w1.heap.size w1 (w1.alloc (.cells #[.slice A0 0 c0, .slice A1 2 c1] 29))) := ⟨below_alloc (Below.refl _ _) _⟩
  have HW1 : Aside0 ((w1.alloc (.cells #[.slice A0 0 c0, .slice A1 2 c1] 29)).heap.size = w1.heap.size + 1) := ⟨alloc_size _ _⟩
  go_wp2_with fail
  generalize w1.alloc (.cells #[.slice A0 0 c0, .slice A1 2 c1] 29) = w2 at *
  rw [← HW1.out]
  refine (Pack_any (some ⟨w2.heap.size, 0, none⟩) 3 [2, 3, 5] _ (fresh_C [2, 3, 5] rfl (by decide) (Below.refl _ _)) (by decide)).mono ?_
  rintro e w3 ⟨v, rfl, ho, hb⟩
  rw [k_packL] at ho
  rw [k_packE]
  obtain ⟨A3, c3, rfl, hc3, hr3⟩ := ho.slice
  have HR3 := Aside0.mk hr3
  have HB3 : Aside0 (Below w2.heap.size w2 w3) := ⟨below_step (below_alloc (Below.refl _ _) _) hb⟩
  clear ho hb hr3
  go_wp2_with fail
  refine (Shift_any (some ⟨w3.heap.size, 0, none⟩) 3 [2, 4, 6] (some ⟨w3.heap.size + 1, 0, none⟩) 2 [1, 4] _ (fresh_C [2, 4, 6] rfl (by decide) (below_alloc (Below.refl _ _) _)) (by decide) (fresh_C (W := w3.alloc _) [1, 4] (by simp only [alloc_size]) (by decide) (Below.refl _ _)) (by decide)).mono ?_
  rintro e w4 ⟨v, rfl, ho, hb⟩
  rw [k_shiftL] at ho
  rw [k_shiftE]
  obtain ⟨A4, c4, rfl, hc4, hr4⟩ := ho.slice
  have HR4 := Aside0.mk hr4
  have HB4 : Aside0 (Below w3.heap.size w3 w4) := ⟨below_step (below_alloc (below_alloc (Below.refl _ _) _) _) hb⟩
  clear ho hb hr4
  have hBK : w4.heap[w1.heap.size]? = some (.cells #[.slice A0 0 c0, .slice A1 2 c1] 29 (0, 0)) := by
    rw [HB4.out.block _ (by have := HB3.out.size; rw [HW1.out] at this; omega), HB3.out.block _ (by rw [HW1.out]; omega)]
    exact BK.out
  have hcc0 : w4.cell? ⟨w1.heap.size, 0, none⟩ = some (.slice A0 0 c0) := (blk_cell hBK 0).trans rfl
  have hcc1 : w4.cell? ⟨w1.heap.size, 1, none⟩ = some (.slice A1 2 c1) := (blk_cell hBK 1).trans rfl
  clear hBK
  go_wp2_with fail
  have HB14 : Below w1.heap.size w1 w4 := below_step (below_step HB1.out HB3.out) HB4.out
  refine (same_any A0 c0 [] A1 c1 [1, 2] none 0 [] (some ⟨w4.heap.size, 0, none⟩) 2 [1, 2] _ (Kd.C_alloc (Kd.C_below HR0.out HB14) _) hc0 (Kd.C_alloc (Kd.C_below HR1.out HB14) _) hc1 (Kd.C_nil _ _) (by decide) (fresh_C [1, 2] rfl (by decide) (Below.refl _ _)) (by decide)).mono ?_
  rintro e w5 ⟨rfl, hb⟩
  rw [show (decide (([] : List Int) = []) && decide (([1, 2] : List Int) = [1, 2])) = true from by decide]
  have HB5 : Aside0 (Below w4.heap.size w4 w5) := ⟨below_step (below_alloc (Below.refl _ _) _) hb⟩
  have hcv : (convert 53 9 (.slice A3 4 c3)).run Try.prog w5 = .ok (.string { data := #[1, 1, 1, 0] }) w5 := Kd.C_string (xs := [1, 1, 1, 0]) (P := Try.prog) (A := A3) (c := c3) Try.underlying53 Try.underlying5 Try.underlying9 (Kd.C_below HR3.out (below_step HB4.out HB5.out))
  clear hb HB14 hcc0 hcc1
  go_wp2_with fail
  refine (SameInts_any A4 c4 [1, 4] (some ⟨w5.heap.size, 0, none⟩) 2 [1, 4] _ (Kd.C_alloc (Kd.C_below HR4.out HB5.out) _) hc4 (fresh_C [1, 4] rfl (by decide) (Below.refl _ _)) (by decide)).mono ?_
  rintro e w6 ⟨rfl, hb⟩
  rw [show decide (([1, 4] : List Int) = [1, 4]) = true from by decide]
  have HB6 : Aside0 (Below w5.heap.size w5 w6) := ⟨below_step (below_alloc (Below.refl _ _) _) hb⟩
  clear hb
  go_wp2_with fail
  go_ret
  exact ⟨rfl, below_step (below_step (below_step (below_step HB0.out (below_step HB1.out HB3.out)) HB4.out) HB5.out) HB6.out⟩
end Go.Proofs.Ytpbdlkbiiglkdaa

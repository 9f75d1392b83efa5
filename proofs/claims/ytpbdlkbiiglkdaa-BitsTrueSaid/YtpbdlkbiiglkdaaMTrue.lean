/- THE LAW BitsTrue: for every input it returns true, and its arguments read afterwards as they read before. No condition. (The frame is the kit's printed row, turned to a walk of my own.) -/
import Derived.Test.YtpbdlkbiiglkdaaMTrue0
import Derived.BigQuiet

/- SameInts, same, known. -/
set_option linter.unusedVariables false
set_option linter.unusedSimpArgs false
namespace Go.Proofs.Ytpbdlkbiiglkdaa
open Go.RowKit Go.Proofs.YtpbdlkbiiglkdaaW.PrintWords Go.Proofs.YtpbdlkbiiglkdaaW.PrintLast Go.Proofs.YtpbdlkbiiglkdaaW.PrintMore Go.Proofs.Cab

theorem sameInts_l0 (a b : List Int) (he : a.length = b.length) (hl : a.length ≤ 9223372036854775807) : ∀ (d i : Nat), a.length - i = d → i ≤ a.length →
    PAll.cabinetryref01_SameInts.l0 (d + 1) a b (i : Int) = some (decide (a.drop i = b.drop i))
  | 0, i, hd, hi => by
    obtain rfl : i = a.length := by omega
    rw [PAll.cabinetryref01_SameInts.l0, if_neg (by omega), List.drop_length, he, List.drop_length]
    rfl
  | d + 1, i, hd, hi => by
    have hlt : i < a.length := by omega
    have hltb : i < b.length := by omega
    rw [PAll.cabinetryref01_SameInts.l0, if_pos (by omega), if_pos (by omega), if_pos (by omega), rd_at a i hlt, rd_at b i hltb, drop_at a i hlt, drop_at b i hltb]
    by_cases h : a[i] = b[i]
    · rw [if_pos h, wrap_id (by omega) (by omega), show (i : Int) + 1 = ((i + 1 : Nat) : Int) by omega, sameInts_l0 a b he hl d (i + 1) (by omega) (by omega)]
      rw [h]
      exact congrArg some (decide_eq_decide.2 ⟨fun e => by rw [e], fun e => (List.cons.inj e).2⟩)
    · rw [if_neg h]
      exact congrArg some (decide_eq_false fun e => h (List.cons.inj e).1).symm
theorem sameInts_f (a b : List Int) (hl : a.length ≤ 9223372036854775807) : ∃ k, PAll.cabinetryref01_SameInts.f k a b = some (decide (a = b)) := by
  by_cases h : a.length = b.length
  · refine ⟨a.length + 1, ?_⟩
    rw [PAll.cabinetryref01_SameInts.f, if_pos (by omega)]
    have := sameInts_l0 a b h hl a.length 0 (by omega) (by omega)
    simpa using this
  · refine ⟨0, ?_⟩
    rw [PAll.cabinetryref01_SameInts.f, if_neg (by omega)]
    congr 1
    symm
    rw [decide_eq_false_iff_not]
    rintro rfl
    exact h rfl
theorem SameInts_any (A0 : Option Addr) (c0 : Nat) (l0 : List Int) (A1 : Option Addr) (c1 : Nat) (l1 : List Int) (w : World)
    (hr0 : Kd.C (Kd.int .i64) w A0 l0.length l0) (hc0 : l0.length ≤ c0) (hr1 : Kd.C (Kd.int .i64) w A1 l1.length l1) (hc1 : l1.length ≤ c1) :
    Calls Try.prog 15 #[.slice A0 l0.length c0, .slice A1 l1.length c1] w fun e w' => e = .returned (.bool (decide (l0 = l1))) ∧ Below w.heap.size w w' := by
  obtain ⟨k, hk⟩ := sameInts_f l0 l1 hr0.2.1
  refine (PAll.cabinetryref01_SameInts.calls k A0 c0 l0 A1 c1 l1 _ w hr0 hc0 hr1 hc1 hk).mono ?_
  rintro e w' ⟨rfl, n, rfl⟩
  exact ⟨rfl, pw_below_drewN (Below.refl _ _) n⟩
theorem sameInts_lift (a b : List Int) : ∀ (n k : Nat) (r : Bool), PAll.cabinetryref01_SameInts.f k a b = some r → PAll.cabinetryref01_SameInts.f (k + n) a b = some r
  | 0, k, r, h => h
  | n + 1, k, r, h => PAll.cabinetryref01_SameInts.mono a b (k + n) r (sameInts_lift a b n k r h)
theorem same_any (A0 : Option Addr) (c0 : Nat) (l0 : List Int) (A1 : Option Addr) (c1 : Nat) (l1 : List Int) (B0 : Option Addr) (d0 : Nat) (m0 : List Int) (B1 : Option Addr) (d1 : Nat) (m1 : List Int) (w : World)
    (hr0 : Kd.C (Kd.int .i64) w A0 l0.length l0) (hc0 : l0.length ≤ c0) (hr1 : Kd.C (Kd.int .i64) w A1 l1.length l1) (hc1 : l1.length ≤ c1)
    (hs0 : Kd.C (Kd.int .i64) w B0 m0.length m0) (hd0 : m0.length ≤ d0) (hs1 : Kd.C (Kd.int .i64) w B1 m1.length m1) (hd1 : m1.length ≤ d1) :
    Calls Try.prog 21 #[.agg #[.slice A0 l0.length c0, .slice A1 l1.length c1], .agg #[.slice B0 m0.length d0, .slice B1 m1.length d1]] w fun e w' =>
      e = .returned (.bool (decide (l0 = m0) && decide (l1 = m1))) ∧ Below w.heap.size w w' := by
  obtain ⟨k, hk⟩ := sameInts_f l0 m0 hr0.2.1
  obtain ⟨j, hj⟩ := sameInts_f l1 m1 hr1.2.1
  refine PAll.cabinetrylaw12_same.calls (k + j) A0 c0 l0 A1 c1 l1 B0 d0 m0 B1 d1 m1 _ w hr0 hc0 hr1 hc1 hs0 hd0 hs1 hd1 ?_
  rw [PAll.cabinetrylaw12_same.f, sameInts_lift _ _ j k _ hk, Option.bind_some, Nat.add_comm k j, sameInts_lift _ _ k j _ hj]
  by_cases h : l0 = m0 <;> simp [h]
theorem own_fresh (W : World) (n : Nat) (l : List Int) (hn : n ≤ W.heap.size) (hl : l.length ≤ 9223372036854775807) : Own (W.alloc (.cells (l.map fun x => Value.int .i64 x).toArray 3)) n (.slice (some ⟨W.heap.size, 0, none⟩) l.length l.length) l :=
  Kd.R_of_own (by simpa [nums, encs] using own_lit W n 3 .i64 l hn hl) (fun _ _ => trivial)

theorem alloc_size (w : World) (o : Obj) : (w.alloc o).heap.size = w.heap.size + 1 := Array.size_push _
theorem fresh_C {W W' : World} {n : Nat} (l : List Int) (hn : W.heap.size = n) (hl : l.length ≤ 9223372036854775807) (hb : Below (W.alloc (.cells (l.map fun x => Value.int .i64 x).toArray 3)).heap.size (W.alloc (.cells (l.map fun x => Value.int .i64 x).toArray 3)) W') :
    Kd.C (Kd.int .i64) W' (some ⟨n, 0, none⟩) l.length l := by
  subst hn
  have h := (own_fresh W 0 l (by omega) hl).below (w1 := W') hb
  obtain ⟨A, c, he, hc, hr⟩ := h.slice
  injection he with h1 h2 h3
  rw [h1]
  exact hr
set_option maxRecDepth 100000 in
theorem k_bothE : bothE [1] [1, 2] [2] [1, 2] = 0 := by simp [bothE, valE, setB, setFrom, lessF, joinF]
set_option maxRecDepth 100000 in
theorem k_bothL0 : bothL (fun a b => a && b) [1] [1, 2] [2] [1, 2] [1] [2] = [] := by simp [bothL, valE, setB, setFrom, lessF, joinF]
set_option maxRecDepth 100000 in
theorem k_bothL1 : bothL (fun a b => a && b) [1] [1, 2] [2] [1, 2] [1, 2] [1, 2] = [1, 2] := by simp [bothL, valE, setB, setFrom, lessF, joinF]
theorem k_packE : knownE [2, 3, 5] = 0 := by simp [knownE, setB, setFrom]
set_option maxRecDepth 100000 in
theorem k_packL : packL [2, 3, 5] = [1, 1, 1, 0] := by decide
theorem k_shiftE : shiftE [2, 4, 6] [1, 4] = 0 := by simp [shiftE, setB, setFrom]
set_option maxRecDepth 100000 in
theorem k_shiftL : shiftL [2, 4, 6] [1, 4] = [1, 4] := by simp [shiftL, shiftF, below, lessF, joinF, setB, setFrom]

set_option maxHeartbeats 4000000 in
set_option maxRecDepth 100000 in
theorem known_any (w : World) : Calls Try.prog 12 #[] w fun e w' => e = .returned (.bool true) ∧ Below w.heap.size w w' := by
  have hu29 := Try.underlying29
  have hu22 := Try.underlying22
  go_enter Try.func12, Try.ntmps12
  go_wp2_with fail
  refine (And_any (some ⟨w.heap.size, 0, none⟩) 1 [1] (some ⟨w.heap.size + 1, 0, none⟩) 2 [1, 2] (some ⟨w.heap.size + 1 + 1, 0, none⟩) 1 [2] (some ⟨w.heap.size + 1 + 1 + 1, 0, none⟩) 2 [1, 2] _ ?_ ?_ ?_ ?_ ?_ ?_ ?_ ?_).mono ?_
  any_goals decide
  · exact fresh_C [1] (by simp only [alloc_size]) (by decide) (below_alloc (below_alloc (below_alloc (Below.refl _ _) _) _) _)
  · exact fresh_C (W := w.alloc _) [1, 2] (by simp only [alloc_size]) (by decide) (below_alloc (below_alloc (Below.refl _ _) _) _)
  · exact fresh_C (W := (w.alloc _).alloc _) [2] (by simp only [alloc_size]) (by decide) (below_alloc (Below.refl _ _) _)
  · exact fresh_C (W := ((w.alloc _).alloc _).alloc _) [1, 2] (by simp only [alloc_size]) (by decide) (Below.refl _ _)
  rintro e w1 ⟨v0, v1, rfl, ho0, ho1, hb⟩
  rw [k_bothL0] at ho0
  rw [k_bothL1] at ho1
  rw [k_bothE]
  have HB0 : Aside0 (Below w.heap.size w w1) := ⟨below_step (below_alloc (below_alloc (below_alloc (below_alloc (Below.refl _ _) _) _) _) _) hb⟩
  obtain ⟨A0, c0, rfl, hc0, hr0⟩ := ho0.slice
  obtain ⟨A1, c1, rfl, hc1, hr1⟩ := ho1.slice
  have HR0 := Aside0.mk hr0
  have HR1 := Aside0.mk hr1
  clear ho0 ho1 hb hr0 hr1
  have BK : Aside0 ((w1.alloc (.cells #[.slice A0 0 c0, .slice A1 2 c1] 29)).heap[w1.heap.size]? = some (.cells #[.slice A0 0 c0, .slice A1 2 c1] 29 (0, 0))) := ⟨blk_new _ _⟩
  have HB1 : Aside0 (Below w1.heap.size w1 (w1.alloc (.cells #[.slice A0 0 c0, .slice A1 2 c1] 29))) := ⟨below_alloc (Below.refl _ _) _⟩
  have HW1 : Aside0 ((w1.alloc (.cells #[.slice A0 0 c0, .slice A1 2 c1] 29)).heap.size = w1.heap.size + 1) := ⟨alloc_size _ _⟩
  go_wp2_with fail
  generalize w1.alloc (.cells #[.slice A0 0 c0, .slice A1 2 c1] 29) = w2 at *
  rw [← HW1.out]
  refine (Pack_any (some ⟨w2.heap.size, 0, none⟩) 3 [2, 3, 5] _ (fresh_C [2, 3, 5] rfl (by decide) (Below.refl _ _)) (by decide)).mono ?_
  rintro e w3 ⟨v, rfl, ho, hb⟩
  rw [k_packL] at ho
  rw [k_packE]
  obtain ⟨A3, c3, rfl, hc3, hr3⟩ := ho.slice
  have HR3 := Aside0.mk hr3
  have HB3 : Aside0 (Below w2.heap.size w2 w3) := ⟨below_step (below_alloc (Below.refl _ _) _) hb⟩
  clear ho hb hr3
  go_wp2_with fail
  refine (Shift_any (some ⟨w3.heap.size, 0, none⟩) 3 [2, 4, 6] (some ⟨w3.heap.size + 1, 0, none⟩) 2 [1, 4] _ (fresh_C [2, 4, 6] rfl (by decide) (below_alloc (Below.refl _ _) _)) (by decide) (fresh_C (W := w3.alloc _) [1, 4] (by simp only [alloc_size]) (by decide) (Below.refl _ _)) (by decide)).mono ?_
  rintro e w4 ⟨v, rfl, ho, hb⟩
  rw [k_shiftL] at ho
  rw [k_shiftE]
  obtain ⟨A4, c4, rfl, hc4, hr4⟩ := ho.slice
  have HR4 := Aside0.mk hr4
  have HB4 : Aside0 (Below w3.heap.size w3 w4) := ⟨below_step (below_alloc (below_alloc (Below.refl _ _) _) _) hb⟩
  clear ho hb hr4
  have hBK : w4.heap[w1.heap.size]? = some (.cells #[.slice A0 0 c0, .slice A1 2 c1] 29 (0, 0)) := by
    rw [HB4.out.block _ (by have := HB3.out.size; rw [HW1.out] at this; omega), HB3.out.block _ (by rw [HW1.out]; omega)]
    exact BK.out
  have hcc0 : w4.cell? ⟨w1.heap.size, 0, none⟩ = some (.slice A0 0 c0) := (blk_cell hBK 0).trans rfl
  have hcc1 : w4.cell? ⟨w1.heap.size, 1, none⟩ = some (.slice A1 2 c1) := (blk_cell hBK 1).trans rfl
  clear hBK
  go_wp2_with fail
  have HB14 : Below w1.heap.size w1 w4 := below_step (below_step HB1.out HB3.out) HB4.out
  refine (same_any A0 c0 [] A1 c1 [1, 2] none 0 [] (some ⟨w4.heap.size, 0, none⟩) 2 [1, 2] _ (Kd.C_alloc (Kd.C_below HR0.out HB14) _) hc0 (Kd.C_alloc (Kd.C_below HR1.out HB14) _) hc1 (Kd.C_nil _ _) (by decide) (fresh_C [1, 2] rfl (by decide) (Below.refl _ _)) (by decide)).mono ?_
  rintro e w5 ⟨rfl, hb⟩
  rw [show (decide (([] : List Int) = []) && decide (([1, 2] : List Int) = [1, 2])) = true from by decide]
  have HB5 : Aside0 (Below w4.heap.size w4 w5) := ⟨below_step (below_alloc (Below.refl _ _) _) hb⟩
  have hcv : (convert 53 9 (.slice A3 4 c3)).run Try.prog w5 = .ok (.string { data := #[1, 1, 1, 0] }) w5 := Kd.C_string (xs := [1, 1, 1, 0]) (P := Try.prog) (A := A3) (c := c3) Try.underlying53 Try.underlying5 Try.underlying9 (Kd.C_below HR3.out (below_step HB4.out HB5.out))
  clear hb HB14 hcc0 hcc1
  go_wp2_with fail
  refine (SameInts_any A4 c4 [1, 4] (some ⟨w5.heap.size, 0, none⟩) 2 [1, 4] _ (Kd.C_alloc (Kd.C_below HR4.out HB5.out) _) hc4 (fresh_C [1, 4] rfl (by decide) (Below.refl _ _)) (by decide)).mono ?_
  rintro e w6 ⟨rfl, hb⟩
  rw [show decide (([1, 4] : List Int) = [1, 4]) = true from by decide]
  have HB6 : Aside0 (Below w5.heap.size w5 w6) := ⟨below_step (below_alloc (Below.refl _ _) _) hb⟩
  clear hb
  go_wp2_with fail
  go_ret
  exact ⟨rfl, below_step (below_step (below_step (below_step HB0.out (below_step HB1.out HB3.out)) HB4.out) HB5.out) HB6.out⟩
end Go.Proofs.Ytpbdlkbiiglkdaa

/- What the reference answers, in plain Lean: lists that are sets, in either form. -/
set_option linter.unusedVariables false
set_option linter.unusedSimpArgs false
namespace Go.Proofs.Ytpbdlkbiiglkdaa
open Go.RowKit Go.Proofs.YtpbdlkbiiglkdaaW.PrintWords Go.Proofs.YtpbdlkbiiglkdaaW.PrintLast Go.Proofs.YtpbdlkbiiglkdaaW.PrintMore Go.Proofs.Cab

theorem isSetR_l0 (l : List Int) (hl : l.length ≤ 1000000) : ∀ (d i : Nat) (k : Nat) (p : Int), l.length - i = d → i ≤ l.length → d < k → 0 ≤ p → (i = 0 → p = 0) → (∀ (h : 0 < i) (h2 : i - 1 < l.length), p = l[i - 1]) →
    PAll.cabinetryref12_IsSet.l0 k l (i : Int) = some (setFrom 300 p (l.drop i))
  | 0, i, k + 1, p, hd, hi, hk, h0, hz, hp => by
    obtain rfl : i = l.length := by omega
    rw [PAll.cabinetryref12_IsSet.l0, if_neg (by omega), List.drop_length]
    rfl
  | d + 1, i, k + 1, p, hd, hi, hk, h0, hz, hp => by
    have hlt : i < l.length := by omega
    rw [PAll.cabinetryref12_IsSet.l0, if_pos (by omega), if_pos (by omega), rd_at l i hlt, drop_at l i hlt]
    obtain ⟨x, hx⟩ : ∃ x, l[i] = x := ⟨_, rfl⟩
    have ih := fun (q : Int) (h1 : 0 ≤ q) (h2 : q = x) => isSetR_l0 l hl d (i + 1) k q (by omega) (by omega) (by omega) h1 (by omega) (fun _ _ => by simpa [hx] using h2)
    rw [hx]
    have hw : wrap64 ((i : Int) + 1) = ((i + 1 : Nat) : Int) := by rw [wrap_id (by omega) (by omega)]; omega
    simp only [setFrom]
    by_cases h1 : x < 1
    · rw [if_pos h1]
      rw [decide_eq_false (by omega : ¬ p < x)]
      rfl
    · rw [if_neg h1]
      by_cases h2 : x > 300
      · rw [if_pos h2, decide_eq_false (by omega : ¬ x ≤ 300)]
        simp
      · rw [if_neg h2, decide_eq_true (by omega : x ≤ 300), hw]
        by_cases h3 : i = 0
        · rw [if_neg (by omega), ih x (by omega) rfl]
          obtain rfl := hz h3
          rw [decide_eq_true (by omega : (0 : Int) < x)]
          simp
        · have hw2 : wrap64 ((i : Int) - 1) = ((i - 1 : Nat) : Int) := by rw [wrap_id (by omega) (by omega)]; omega
          rw [if_pos (by omega), hw2, if_pos (by omega), if_pos (by omega), rd_at l (i - 1) (by omega), ← hp (by omega) (by omega)]
          by_cases h4 : x ≤ p
          · rw [if_pos h4, decide_eq_false (by omega : ¬ p < x)]
            rfl
          · rw [if_neg h4, decide_eq_true (by omega : p < x), ih x (by omega) rfl]
            simp
theorem isSetR_f (l : List Int) (k : Nat) (hl : l.length ≤ 1000000) (hk : l.length < k) : PAll.cabinetryref12_IsSet.f k l = some (setB 300 l) := by
  have := isSetR_l0 l hl l.length 0 k 0 (by omega) (by omega) hk (by omega) (fun _ => rfl) (fun h => absurd h (by omega))
  simpa [PAll.cabinetryref12_IsSet.f, setB] using this

theorem hasR_l0 (l : List Int) (n : Int) (hl : l.length ≤ 1000000) : ∀ (d i : Nat) (k : Nat), l.length - i = d → i ≤ l.length → d < k →
    PAll.cabinetryref12_Has.l0 k l n (i : Int) = some (decide (n ∈ l.drop i))
  | 0, i, k + 1, hd, hi, hk => by
    obtain rfl : i = l.length := by omega
    rw [PAll.cabinetryref12_Has.l0, if_neg (by omega), List.drop_length]
    simp
  | d + 1, i, k + 1, hd, hi, hk => by
    have hlt : i < l.length := by omega
    rw [PAll.cabinetryref12_Has.l0, if_pos (by omega), if_pos (by omega), rd_at l i hlt, drop_at l i hlt]
    by_cases h : l[i] = n
    · rw [if_pos h]
      exact congrArg some (decide_eq_true (by rw [h]; exact List.mem_cons_self)).symm
    · rw [if_neg h, wrap_id (by omega) (by omega), show (i : Int) + 1 = ((i + 1 : Nat) : Int) by omega, hasR_l0 l n hl d (i + 1) k (by omega) (by omega) (by omega)]
      exact congrArg some (decide_eq_decide.2 ⟨fun e => List.mem_cons_of_mem _ e, fun e => (List.mem_cons.1 e).resolve_left fun h' => h h'.symm⟩)
theorem hasR_f (l : List Int) (n : Int) (k : Nat) (hl : l.length ≤ 1000000) (hk : l.length < k) : PAll.cabinetryref12_Has.f k l n = some (decide (n ∈ l)) := by
  have := hasR_l0 l n hl l.length 0 k (by omega) (by omega) hk
  simpa [PAll.cabinetryref12_Has.f] using this

/-- Two ascending lists with the same members are one. -/
theorem sorted_ext : ∀ {l m : List Int}, l.Pairwise (· < ·) → m.Pairwise (· < ·) → (∀ z, z ∈ l ↔ z ∈ m) → l = m
  | [], [], _, _, _ => rfl
  | [], y :: m, _, _, h => absurd ((h y).2 List.mem_cons_self) (by simp)
  | x :: l, [], _, _, h => absurd ((h x).1 List.mem_cons_self) (by simp)
  | x :: l, y :: m, hl, hm, h => by
    have hl1 := (List.pairwise_cons.1 hl).1
    have hm1 := (List.pairwise_cons.1 hm).1
    have hxy : x = y := by
      rcases List.mem_cons.1 ((h x).1 List.mem_cons_self) with e | e
      · exact e
      · rcases List.mem_cons.1 ((h y).2 List.mem_cons_self) with e' | e'
        · exact e'.symm
        · have a := hm1 x e
          have b := hl1 y e'
          omega
    subst hxy
    rw [sorted_ext (List.pairwise_cons.1 hl).2 (List.pairwise_cons.1 hm).2 fun z => ?_]
    constructor
    · intro hz
      rcases List.mem_cons.1 ((h z).1 (List.mem_cons_of_mem _ hz)) with e | e
      · have := hl1 z hz; omega
      · exact e
    · intro hz
      rcases List.mem_cons.1 ((h z).2 (List.mem_cons_of_mem _ hz)) with e | e
      · have := hm1 z hz; omega
      · exact e

/-- The members of what is kept of two ascending lists; and it ascends. -/
theorem joinF_spec (f : Bool → Bool → Bool) (hf : f false false = false) : ∀ (n : Nat) (xs ys : List Int), xs.length + ys.length = n → xs.Pairwise (· < ·) → ys.Pairwise (· < ·) →
    (∀ z, z ∈ joinF f xs ys ↔ f (decide (z ∈ xs)) (decide (z ∈ ys)) = true) ∧ (joinF f xs ys).Pairwise (· < ·) := by
  have one : ∀ (b : Bool) (x z : Int), z ∈ (if b then [x] else []) ↔ b = true ∧ z = x := fun b x z => by cases b <;> simp
  have step : ∀ (b : Bool) (x : Int) (l : List Int), l.Pairwise (· < ·) → (∀ z ∈ l, x < z) → ((if b then [x] else []) ++ l).Pairwise (· < ·) := fun b x l h h2 => by
    cases b
    · simpa using h
    · simpa using ⟨h2, h⟩
  intro n
  induction n using Nat.strongRecOn with
  | _ n ih =>
    intro xs ys hn hx hy
    cases xs with
    | nil =>
      cases ys with
      | nil => exact ⟨fun z => by simp [joinF, hf], by simp [joinF]⟩
      | cons y ys =>
        obtain ⟨hy1, hy2⟩ := List.pairwise_cons.1 hy
        obtain ⟨i1, i2⟩ := ih (n - 1) (by simp at hn; omega) [] ys (by simp at hn ⊢; omega) hx hy2
        simp only [joinF]
        refine ⟨fun z => ?_, step _ _ _ i2 fun z hz => ?_⟩
        · rw [List.mem_append, one, i1]
          by_cases e : z = y
          · subst e
            have : z ∉ ys := fun h => by have := hy1 z h; omega
            simp [this, hf]
          · simp [e]
        · rcases joinF_mem f _ [] ys rfl z hz with h | h
          · cases h
          · exact hy1 z h
    | cons x xs =>
      obtain ⟨hx1, hx2⟩ := List.pairwise_cons.1 hx
      cases ys with
      | nil =>
        obtain ⟨i1, i2⟩ := ih (n - 1) (by simp at hn; omega) xs [] (by simp at hn ⊢; omega) hx2 hy
        simp only [joinF]
        refine ⟨fun z => ?_, step _ _ _ i2 fun z hz => ?_⟩
        · rw [List.mem_append, one, i1]
          by_cases e : z = x
          · subst e
            have : z ∉ xs := fun h => by have := hx1 z h; omega
            simp [this, hf]
          · simp [e]
        · rcases joinF_mem f _ xs [] rfl z hz with h | h
          · exact hx1 z h
          · cases h
      | cons y ys =>
        obtain ⟨hy1, hy2⟩ := List.pairwise_cons.1 hy
        rw [joinF]
        by_cases h1 : x < y
        · rw [if_pos h1]
          obtain ⟨i1, i2⟩ := ih (n - 1) (by simp at hn; omega) xs (y :: ys) (by simp at hn ⊢; omega) hx2 hy
          refine ⟨fun z => ?_, step _ _ _ i2 fun z hz => ?_⟩
          · rw [List.mem_append, one, i1]
            by_cases e : z = x
            · subst e
              have a : z ∉ xs := fun h => by have := hx1 z h; omega
              have b : z ∉ y :: ys := fun h => by
                rcases List.mem_cons.1 h with h | h
                · omega
                · have := hy1 z h; omega
              simp [a, b, hf]
            · simp [e]
          · rcases joinF_mem f _ xs (y :: ys) rfl z hz with h | h
            · exact hx1 z h
            · rcases List.mem_cons.1 h with h | h
              · omega
              · have := hy1 z h; omega
        · rw [if_neg h1]
          by_cases h2 : y < x
          · rw [if_pos h2]
            obtain ⟨i1, i2⟩ := ih (n - 1) (by simp at hn; omega) (x :: xs) ys (by simp at hn ⊢; omega) hx hy2
            refine ⟨fun z => ?_, step _ _ _ i2 fun z hz => ?_⟩
            · rw [List.mem_append, one, i1]
              by_cases e : z = y
              · subst e
                have a : z ∉ ys := fun h => by have := hy1 z h; omega
                have b : z ∉ x :: xs := fun h => by
                  rcases List.mem_cons.1 h with h | h
                  · omega
                  · have := hx1 z h; omega
                simp [a, b, hf]
              · simp [e]
            · rcases joinF_mem f _ (x :: xs) ys rfl z hz with h | h
              · rcases List.mem_cons.1 h with h | h
                · omega
                · have := hx1 z h; omega
              · exact hy1 z h
          · rw [if_neg h2]
            obtain rfl : x = y := by omega
            obtain ⟨i1, i2⟩ := ih (n - 2) (by simp at hn; omega) xs ys (by simp at hn ⊢; omega) hx2 hy2
            refine ⟨fun z => ?_, step _ _ _ i2 fun z hz => ?_⟩
            · rw [List.mem_append, one, i1]
              by_cases e : z = x
              · subst e
                have a : z ∉ ys := fun h => by have := hy1 z h; omega
                have b : z ∉ xs := fun h => by have := hx1 z h; omega
                simp [a, b, hf]
              · simp [e]
            · rcases joinF_mem f _ xs ys rfl z hz with h | h
              · exact hx1 z h
              · exact hy1 z h
theorem set_asc {l : List Int} {n : Int} (h : setB n l = true) : l.Pairwise (· < ·) := setFrom_pairwise h
theorem set_mem {l : List Int} {n : Int} (h : setB n l = true) : ∀ x ∈ l, 1 ≤ x ∧ x ≤ n := fun x hx => by
  have := setFrom_mem h x hx
  omega
theorem filter_asc {l : List Int} (p : Int → Bool) (h : l.Pairwise (· < ·)) : (l.filter p).Pairwise (· < ·) := h.filter p
theorem lessF_filter {l g : List Int} (hl : l.Pairwise (· < ·)) (hg : g.Pairwise (· < ·)) : lessF l g = l.filter fun x => !decide (x ∈ g) := by
  obtain ⟨h1, h2⟩ := joinF_spec (fun a b => a && !b) rfl _ l g rfl hl hg
  refine sorted_ext h2 (filter_asc _ hl) fun z => ?_
  refine (h1 z).trans ?_
  rw [List.mem_filter]
  simp
theorem bothF_filter {l g : List Int} (hl : l.Pairwise (· < ·)) (hg : g.Pairwise (· < ·)) : bothF l g = l.filter fun x => decide (x ∈ g) := by
  obtain ⟨h1, h2⟩ := joinF_spec (fun a b => a && b) rfl _ l g rfl hl hg
  refine sorted_ext h2 (filter_asc _ hl) fun z => ?_
  refine (h1 z).trans ?_
  rw [List.mem_filter]
  simp
theorem upTo_mem (n x : Int) : x ∈ upTo n ↔ 1 ≤ x ∧ x ≤ n := by
  unfold upTo
  rw [List.mem_map]
  constructor
  · rintro ⟨k, hk, rfl⟩
    rw [List.mem_range] at hk
    omega
  · rintro ⟨h1, h2⟩
    exact ⟨(x - 1).toNat, List.mem_range.2 (by omega), by omega⟩
theorem upTo_asc (n : Int) : (upTo n).Pairwise (· < ·) := by
  unfold upTo
  rw [List.pairwise_map]
  exact List.pairwise_lt_range.imp fun h => by omega
theorem anyF_filter {l g : List Int} (hl : setB 300 l = true) (hg : setB 300 g = true) : anyF l g = (upTo 300).filter fun x => decide (x ∈ l) || decide (x ∈ g) := by
  obtain ⟨h1, h2⟩ := joinF_spec (fun a b => a || b) rfl _ l g rfl (set_asc hl) (set_asc hg)
  refine sorted_ext h2 (filter_asc _ (upTo_asc _)) fun z => ?_
  refine (h1 z).trans ?_
  rw [List.mem_filter, upTo_mem]
  constructor
  · intro h
    refine ⟨?_, h⟩
    simp at h
    rcases h with h | h
    · exact set_mem hl z h
    · exact set_mem hg z h
  · exact fun h => h.2
end Go.Proofs.Ytpbdlkbiiglkdaa

/- The reference's Shift, in plain Lean. -/
set_option linter.unusedVariables false
set_option linter.unusedSimpArgs false
namespace Go.Proofs.Ytpbdlkbiiglkdaa
open Go.RowKit Go.Proofs.YtpbdlkbiiglkdaaW.PrintWords Go.Proofs.YtpbdlkbiiglkdaaW.PrintLast Go.Proofs.YtpbdlkbiiglkdaaW.PrintMore Go.Proofs.Cab

theorem below_cons (y : Int) (g : List Int) (x : Int) : (below (y :: g) x : Int) = (if y < x then 1 else 0) + (below g x : Int) := by
  unfold below
  rw [List.filter_cons]
  by_cases h : y < x
  · rw [if_pos (decide_eq_true h), if_pos h, List.length_cons]; omega
  · rw [if_neg (by simpa using h), if_neg h]; omega
theorem below_le (g : List Int) (x : Int) : below g x ≤ g.length := List.length_filter_le _ _
def shiftG (l g : List Int) : List Int := (l.filter fun x => !decide (x ∈ g)).map fun x => x - (below g x : Int)
theorem shiftG_length (l g : List Int) : (shiftG l g).length ≤ l.length := by
  unfold shiftG
  rw [List.length_map]
  exact List.length_filter_le _ _

theorem shiftR_l1 (l g out : List Int) (hl : l.length ≤ 10000) (hg : g.length ≤ 10000) (ho : out.length ≤ 10000) (i : Nat) (hi : i < l.length) : ∀ (d j k : Nat) (n : Int), g.length - j = d → j ≤ g.length → -1000000 + d ≤ n → n ≤ 1000000 →
    PAll.cabinetryref12_Shift.l1 (k + d + 1) l g out (i : Int) n (j : Int) = PAll.cabinetryref12_Shift.l0 k l g (out ++ [n - (below (g.drop j) l[i] : Int)]) ((i + 1 : Nat) : Int)
  | 0, j, k, n, hd, hj, h1, h2 => by
    obtain rfl : j = g.length := by omega
    rw [PAll.cabinetryref12_Shift.l1, if_neg (by omega), if_pos (by omega), wrap_id (by omega) (by omega), List.drop_length]
    simp [below]
  | d + 1, j, k, n, hd, hj, h1, h2 => by
    have hlt : j < g.length := by omega
    rw [show k + (d + 1) + 1 = (k + d + 1) + 1 by omega, PAll.cabinetryref12_Shift.l1, if_pos (by omega), if_pos (by omega), if_pos (by omega), if_pos (by omega), rd_at g j hlt, rd_at l i hi, drop_at g j hlt, below_cons]
    have hw : wrap64 ((j : Int) + 1) = ((j + 1 : Nat) : Int) := by rw [wrap_id (by omega) (by omega)]; omega
    rw [hw]
    by_cases h : g[j] < l[i]
    · rw [if_pos h, if_pos h, wrap_id (by omega) (by omega), shiftR_l1 l g out hl hg ho i hi d (j + 1) k (n - 1) (by omega) (by omega) (by omega) (by omega)]
      have e : ∀ X : Int, n - (1 + X) = n - 1 - X := fun X => by omega
      rw [e]
    · rw [if_neg h, if_neg h, shiftR_l1 l g out hl hg ho i hi d (j + 1) k n (by omega) (by omega) (by omega) (by omega), Int.zero_add]
theorem shiftR_l0 (l g : List Int) (hl : l.length ≤ 3000) (hg : g.length ≤ 3000) (hv : ∀ x ∈ l, -10000 ≤ x ∧ x ≤ 10000) : ∀ (d i k : Nat) (out : List Int), l.length - i = d → i ≤ l.length → out.length ≤ i → d * (g.length + 2) + g.length + 2 ≤ k →
    PAll.cabinetryref12_Shift.l0 k l g out (i : Int) = some (out ++ shiftG (l.drop i) g, 0)
  | 0, i, k + 1, out, hd, hi, ho, hk => by
    obtain rfl : i = l.length := by omega
    rw [PAll.cabinetryref12_Shift.l0, if_neg (by omega), List.drop_length]
    simp [shiftG]
  | d + 1, i, k + 1, out, hd, hi, ho, hk => by
    have hlt : i < l.length := by omega
    rw [Nat.succ_mul] at hk
    have hw : wrap64 ((i : Int) + 1) = ((i + 1 : Nat) : Int) := by rw [wrap_id (by omega) (by omega)]; omega
    rw [PAll.cabinetryref12_Shift.l0, if_pos (by omega), if_pos (by omega), rd_at l i hlt, drop_at l i hlt, hasR_f _ _ _ (by omega) (by omega), Option.bind_some]
    have hvi := hv l[i] (List.getElem_mem hlt)
    by_cases h : l[i] ∈ g
    · rw [if_pos (by simpa using h), hw, shiftR_l0 l g hl hg hv d (i + 1) k out (by omega) (by omega) (by omega) (by omega)]
      simp only [shiftG]
      rw [List.filter_cons, if_neg (by simpa using h)]
    · rw [if_neg (by simpa using h), show k = (k - g.length - 1) + g.length + 1 by omega]
      have h0 := shiftR_l1 l g out (by omega) (by omega) (by omega) i hlt g.length 0 (k - g.length - 1) l[i] (by omega) (by omega) (by omega) (by omega)
      rw [show ((0 : Nat) : Int) = 0 from rfl] at h0
      rw [h0, shiftR_l0 l g hl hg hv d (i + 1) (k - g.length - 1) _ (by omega) (by omega) (by rw [List.length_append, List.length_singleton]; omega) (by omega)]
      simp only [shiftG]
      rw [List.filter_cons, if_pos (by simpa using h), List.map_cons, List.drop_zero, List.append_assoc]
      rfl
theorem shiftR_f (l g : List Int) (hl : l.length ≤ 3000) (hg : g.length ≤ 3000) : ∃ k, PAll.cabinetryref12_Shift.f k l g = some (shiftL l g, shiftE l g) := by
  refine ⟨l.length * (g.length + 2) + l.length + g.length + 10 + 1, ?_⟩
  rw [PAll.cabinetryref12_Shift.f, isSetR_f l _ (by omega) (by omega), Option.bind_some, isSetR_f g _ (by omega) (by omega), Option.bind_some]
  unfold shiftL shiftE
  by_cases h1 : setB 300 l = true
  · rw [if_pos h1]
    by_cases h2 : setB 300 g = true
    · rw [if_pos ⟨h1, h2⟩, if_pos ⟨h1, h2⟩, h2, PAll.cabinetryref12_Shift.j0, if_neg (by decide)]
      have h := shiftR_l0 l g hl hg (fun x hx => by have := set_mem h1 x hx; omega) l.length 0 (l.length * (g.length + 2) + l.length + g.length + 10) [] (by omega) (by omega) (by simp) (by omega)
      rw [show ((0 : Nat) : Int) = 0 from rfl] at h
      rw [h, List.nil_append, List.drop_zero, shiftF, lessF_filter (set_asc h1) (set_asc h2)]
      rfl
    · rw [if_neg (fun h => h2 h.2), if_neg (fun h => h2 h.2), PAll.cabinetryref12_Shift.j0, if_pos (by simpa using h2)]
  · rw [if_neg h1, if_neg (fun h => h1 h.1), if_neg (fun h => h1 h.1), PAll.cabinetryref12_Shift.j0, if_pos rfl]
theorem ShiftR_any (A0 : Option Addr) (c0 : Nat) (l0 : List Int) (A1 : Option Addr) (c1 : Nat) (l1 : List Int) (w : World)
    (hr0 : Kd.C (Kd.int .i64) w A0 l0.length l0) (hc0 : l0.length ≤ c0) (hr1 : Kd.C (Kd.int .i64) w A1 l1.length l1) (hc1 : l1.length ≤ c1) (hl0 : l0.length ≤ 3000) (hl1 : l1.length ≤ 3000) :
    Calls Try.prog 14 #[.slice A0 l0.length c0, .slice A1 l1.length c1] w fun e w' => ∃ v : Value, e = .returned (.tuple #[v, .int .i64 (shiftE l0 l1)]) ∧ Own w' w.heap.size v (shiftL l0 l1) ∧ Below w.heap.size w w' := by
  obtain ⟨k, hk⟩ := shiftR_f l0 l1 hl0 hl1
  exact PAll.cabinetryref12_Shift.calls k A0 c0 l0 A1 c1 l1 _ _ w hr0 hc0 hr1 hc1 hk
end Go.Proofs.Ytpbdlkbiiglkdaa

/- What the reference answers: Validate, And, Or, Not, Any, True, Doubt. -/
set_option linter.unusedVariables false
set_option linter.unusedSimpArgs false
namespace Go.Proofs.Ytpbdlkbiiglkdaa
open Go.RowKit Go.Proofs.YtpbdlkbiiglkdaaW.PrintWords Go.Proofs.YtpbdlkbiiglkdaaW.PrintLast Go.Proofs.YtpbdlkbiiglkdaaW.PrintMore Go.Proofs.Cab

theorem if_congr' {a b : Prop} [Decidable a] [Decidable b] (h : a ↔ b) (x y : Int) : (if a then x else y) = (if b then x else y) := by
  by_cases ha : a
  · rw [if_pos ha, if_pos (h.1 ha)]
  · rw [if_neg ha, if_neg fun hb => ha (h.2 hb)]
theorem filter_mem_nil {s m : List Int} : (s.filter fun x => !decide (x ∈ m)) = [] ↔ ∀ x ∈ s, x ∈ m := by
  rw [List.filter_eq_nil_iff]
  simp
theorem valR_l0 (s m : List Int) (hs : s.length ≤ 3000) (hm : m.length ≤ 3000) : ∀ (d i k : Nat), s.length - i = d → i ≤ s.length → d + 3001 < k →
    PAll.cabinetryref12_Validate.l0 k (i : Int) s m = some (if ∀ x ∈ s.drop i, x ∈ m then 0 else 1)
  | 0, i, k + 1, hd, hi, hk => by
    obtain rfl : i = s.length := by omega
    rw [PAll.cabinetryref12_Validate.l0, if_neg (by omega), List.drop_length]
    simp
  | d + 1, i, k + 1, hd, hi, hk => by
    have hlt : i < s.length := by omega
    have hw : wrap64 ((i : Int) + 1) = ((i + 1 : Nat) : Int) := by rw [wrap_id (by omega) (by omega)]; omega
    rw [PAll.cabinetryref12_Validate.l0, if_pos (by omega), if_pos (by omega), rd_at s i hlt, hasR_f _ _ _ (by omega) (by omega), Option.bind_some, drop_at s i hlt]
    by_cases h : s[i] ∈ m
    · rw [if_pos (decide_eq_true h), hw, valR_l0 s m hs hm d (i + 1) k (by omega) (by omega) (by omega)]
      congr 1
      exact if_congr' ⟨fun e x hx => (List.mem_cons.1 hx).elim (fun h' => h' ▸ h) (e x), fun e x hx => e x (List.mem_cons_of_mem _ hx)⟩ _ _
    · rw [if_neg (by simpa using h), if_neg fun e => h (e _ List.mem_cons_self)]
theorem valR_f (s m : List Int) (k : Nat) (hs : s.length ≤ 3000) (hm : m.length ≤ 3000) (hk : 8000 ≤ k) : PAll.cabinetryref12_Validate.f k s m = some (valE s m) := by
  obtain ⟨k, rfl⟩ : ∃ j, k = j + 1 := ⟨k - 1, by omega⟩
  rw [PAll.cabinetryref12_Validate.f, isSetR_f s _ (by omega) (by omega), Option.bind_some, isSetR_f m _ (by omega) (by omega), Option.bind_some]
  unfold valE
  by_cases h1 : setB 300 s = true
  · rw [if_pos h1]
    by_cases h2 : setB 300 m = true
    · rw [h2, PAll.cabinetryref12_Validate.j0, if_neg (by decide)]
      have h := valR_l0 s m hs hm s.length 0 k (by omega) (by omega) (by omega)
      rw [show ((0 : Nat) : Int) = 0 from rfl, List.drop_zero] at h
      rw [h]
      congr 1
      refine if_congr' ?_ _ _
      rw [lessF_filter (set_asc h1) (set_asc h2), filter_mem_nil]
      exact ⟨fun e => ⟨h1, rfl, e⟩, fun e => e.2.2⟩
    · rw [PAll.cabinetryref12_Validate.j0, if_pos (by simpa using h2), if_neg fun e => h2 e.2.1]
  · rw [if_neg h1, PAll.cabinetryref12_Validate.j0, if_pos rfl, if_neg fun e => h1 e.1]
theorem bothR_f (s m t n : List Int) (k : Nat) (hs : s.length ≤ 3000) (hm : m.length ≤ 3000) (ht : t.length ≤ 3000) (hn : n.length ≤ 3000) (hk : 8000 ≤ k) : PAll.cabinetryref12_both.f k s m t n = some (bothE s m t n) := by
  rw [PAll.cabinetryref12_both.f, valR_f s m k hs hm hk, Option.bind_some, valR_f t n k ht hn hk, Option.bind_some]
  unfold bothE
  split <;> rfl
theorem inBothR_l0 (l g : List Int) (hl : l.length ≤ 3000) (hg : g.length ≤ 3000) : ∀ (d i k : Nat) (out : List Int), l.length - i = d → i ≤ l.length → out.length ≤ i → d + 3001 < k →
    PAll.cabinetryref12_inBoth.l0 k l g out (i : Int) = some (out ++ (l.drop i).filter fun x => decide (x ∈ g))
  | 0, i, k + 1, out, hd, hi, ho, hk => by
    obtain rfl : i = l.length := by omega
    rw [PAll.cabinetryref12_inBoth.l0, if_neg (by omega), List.drop_length]
    simp
  | d + 1, i, k + 1, out, hd, hi, ho, hk => by
    have hlt : i < l.length := by omega
    have hw : wrap64 ((i : Int) + 1) = ((i + 1 : Nat) : Int) := by rw [wrap_id (by omega) (by omega)]; omega
    rw [PAll.cabinetryref12_inBoth.l0, if_pos (by omega), if_pos (by omega), rd_at l i hlt, hasR_f _ _ _ (by omega) (by omega), Option.bind_some, drop_at l i hlt, List.filter_cons, hw]
    by_cases h : l[i] ∈ g
    · rw [if_pos (decide_eq_true h), if_pos (by omega), if_pos (decide_eq_true h), inBothR_l0 l g hl hg d (i + 1) k _ (by omega) (by omega) (by rw [List.length_append, List.length_singleton]; omega) (by omega), List.append_assoc]
      rfl
    · rw [if_neg (by simpa using h), if_neg (by simpa using h), inBothR_l0 l g hl hg d (i + 1) k _ (by omega) (by omega) (by omega) (by omega)]
theorem inBothR_f (l g : List Int) (k : Nat) (hl : l.length ≤ 3000) (hg : g.length ≤ 3000) (hk : 8000 ≤ k) : PAll.cabinetryref12_inBoth.f k l g = some (l.filter fun x => decide (x ∈ g)) :=
  inBothR_l0 l g hl hg l.length 0 k [] (by omega) (by omega) (by simp) (by omega)
theorem lessR_l0 (l g : List Int) (hl : l.length ≤ 3000) (hg : g.length ≤ 3000) : ∀ (d i k : Nat) (out : List Int), l.length - i = d → i ≤ l.length → out.length ≤ i → d + 3001 < k →
    PAll.cabinetryref12_less.l0 k l g out (i : Int) = some (out ++ (l.drop i).filter fun x => !decide (x ∈ g))
  | 0, i, k + 1, out, hd, hi, ho, hk => by
    obtain rfl : i = l.length := by omega
    rw [PAll.cabinetryref12_less.l0, if_neg (by omega), List.drop_length]
    simp
  | d + 1, i, k + 1, out, hd, hi, ho, hk => by
    have hlt : i < l.length := by omega
    have hw : wrap64 ((i : Int) + 1) = ((i + 1 : Nat) : Int) := by rw [wrap_id (by omega) (by omega)]; omega
    rw [PAll.cabinetryref12_less.l0, if_pos (by omega), if_pos (by omega), rd_at l i hlt, hasR_f _ _ _ (by omega) (by omega), Option.bind_some, drop_at l i hlt, List.filter_cons, hw]
    by_cases h : l[i] ∈ g
    · rw [if_pos (decide_eq_true h), if_neg (by simpa using h), lessR_l0 l g hl hg d (i + 1) k _ (by omega) (by omega) (by omega) (by omega)]
    · rw [if_neg (by simpa using h), if_pos (by omega), if_pos (by simpa using h), lessR_l0 l g hl hg d (i + 1) k _ (by omega) (by omega) (by rw [List.length_append, List.length_singleton]; omega) (by omega), List.append_assoc]
      rfl
theorem lessR_f (l g : List Int) (k : Nat) (hl : l.length ≤ 3000) (hg : g.length ≤ 3000) (hk : 8000 ≤ k) : PAll.cabinetryref12_less.f k l g = some (l.filter fun x => !decide (x ∈ g)) :=
  lessR_l0 l g hl hg l.length 0 k [] (by omega) (by omega) (by simp) (by omega)

/-- The numbers from i on to n. -/
def fromTo (n : Int) : Nat → Int → List Int
  | 0, _ => []
  | d + 1, i => i :: fromTo n d (i + 1)
theorem fromTo_mem (n : Int) : ∀ (d : Nat) (i : Int), ∀ x, x ∈ fromTo n d i ↔ i ≤ x ∧ x < i + d
  | 0, i, x => ⟨fun h => absurd h (by simp [fromTo]), fun h => by omega⟩
  | d + 1, i, x => by
    rw [fromTo, List.mem_cons, fromTo_mem n d (i + 1) x]
    omega
theorem fromTo_asc (n : Int) : ∀ (d : Nat) (i : Int), (fromTo n d i).Pairwise (· < ·)
  | 0, i => List.Pairwise.nil
  | d + 1, i => List.pairwise_cons.2 ⟨fun x hx => by rw [fromTo_mem] at hx; omega, fromTo_asc n d (i + 1)⟩
theorem upTo_fromTo (n : Int) : upTo n = fromTo n n.toNat 1 := sorted_ext (upTo_asc n) (fromTo_asc _ _ _) fun z => by
  rw [upTo_mem, fromTo_mem]
  omega
theorem eitherR_l0 (l g : List Int) (hl : l.length ≤ 3000) (hg : g.length ≤ 3000) : ∀ (d : Nat) (i : Int) (k : Nat) (out : List Int), 300 + 1 - i = d → 1 ≤ i → out.length < i → d + 3001 < k →
    PAll.cabinetryref12_either.l0 k l g out i = some (out ++ (fromTo 300 d i).filter fun x => decide (x ∈ l) || decide (x ∈ g))
  | 0, i, k + 1, out, hd, hi, ho, hk => by
    rw [PAll.cabinetryref12_either.l0, if_neg (by omega)]
    simp [fromTo]
  | d + 1, i, k + 1, out, hd, hi, ho, hk => by
    have hw : wrap64 (i + 1) = i + 1 := wrap_id (by omega) (by omega)
    rw [PAll.cabinetryref12_either.l0, if_pos (by omega), hasR_f _ _ _ (by omega) (by omega), Option.bind_some, hw, fromTo, List.filter_cons]
    by_cases h : i ∈ l
    · rw [if_pos (decide_eq_true h), if_pos (by omega), if_pos (by simp [h]), eitherR_l0 l g hl hg d (i + 1) k _ (by omega) (by omega) (by rw [List.length_append, List.length_singleton]; omega) (by omega), List.append_assoc]
      rfl
    · rw [if_neg (by simpa using h), hasR_f _ _ _ (by omega) (by omega), Option.bind_some]
      by_cases h2 : i ∈ g
      · rw [if_pos (decide_eq_true h2), if_pos (by omega), if_pos (by simp [h2]), eitherR_l0 l g hl hg d (i + 1) k _ (by omega) (by omega) (by rw [List.length_append, List.length_singleton]; omega) (by omega), List.append_assoc]
        rfl
      · rw [if_neg (by simpa using h2), if_neg (by simp [h, h2]), eitherR_l0 l g hl hg d (i + 1) k _ (by omega) (by omega) (by omega) (by omega)]
theorem eitherR_f (l g : List Int) (k : Nat) (hl : l.length ≤ 3000) (hg : g.length ≤ 3000) (hk : 8000 ≤ k) : PAll.cabinetryref12_either.f k l g = some ((upTo 300).filter fun x => decide (x ∈ l) || decide (x ∈ g)) := by
  rw [upTo_fromTo]
  exact eitherR_l0 l g hl hg 300 1 k [] (by omega) (by omega) (by simp) (by omega)
theorem upToR_l0 (n : Int) (hn : n ≤ 300) : ∀ (d : Nat) (i : Int) (k : Nat) (out : List Int), n + 1 - i ≤ d → (d = 0 ∨ n + 1 - i = d) → 1 ≤ i → i ≤ 301 → out.length < i → d < k →
    PAll.cabinetryref12_upTo.l0 k n out i = some (out ++ fromTo n d i)
  | 0, i, k + 1, out, hd, hd2, hi, hi2, ho, hk => by
    rw [PAll.cabinetryref12_upTo.l0, if_neg (by omega)]
    simp [fromTo]
  | d + 1, i, k + 1, out, hd, hd2, hi, hi2, ho, hk => by
    have hw : wrap64 (i + 1) = i + 1 := wrap_id (by omega) (by omega)
    rw [PAll.cabinetryref12_upTo.l0, if_pos (by omega), if_pos (by omega), hw, fromTo, upToR_l0 n hn d (i + 1) k _ (by omega) (by omega) (by omega) (by omega) (by rw [List.length_append, List.length_singleton]; omega) (by omega), List.append_assoc]
    rfl
theorem upToR_f (n : Int) (k : Nat) (hn : n ≤ 300) (hk : 8000 ≤ k) : PAll.cabinetryref12_upTo.f k n = some (upTo n) := by
  rw [upTo_fromTo]
  exact upToR_l0 n hn n.toNat 1 k [] (by omega) (by omega) (by omega) (by omega) (by simp) (by omega)

/-- A set's last number is its greatest. -/
theorem set_last {l : List Int} (h : setB 300 l = true) (n : Int) (h0 : 0 ≤ n) (hl : 0 < l.length) : setB n l = decide (l[l.length - 1] ≤ n) := by
  have ha := set_asc h
  have hm := set_mem h
  have hle : ∀ x ∈ l, x ≤ l[l.length - 1] := fun x hx => by
    obtain ⟨i, hi, rfl⟩ := List.getElem_of_mem hx
    rcases Nat.lt_or_ge i (l.length - 1) with hlt | hge
    · exact Int.le_of_lt (List.pairwise_iff_getElem.1 ha i (l.length - 1) hi (by omega) hlt)
    · have : i = l.length - 1 := by omega
      subst this
      exact Int.le_refl _
  rw [Bool.eq_iff_iff, decide_eq_true_iff]
  constructor
  · intro e
    exact (set_mem e _ (List.getElem_mem (by omega))).2
  · intro e
    have key : ∀ (l : List Int) (p : Int), l.Pairwise (· < ·) → (∀ x ∈ l, p < x ∧ x ≤ n) → setFrom n p l = true := by
      intro l
      induction l with
      | nil => exact fun _ _ _ => rfl
      | cons x l ih =>
        intro p hp hx
        obtain ⟨h1, h2⟩ := List.pairwise_cons.1 hp
        simp only [setFrom, Bool.and_eq_true, decide_eq_true_eq]
        exact ⟨(hx x List.mem_cons_self).1, (hx x List.mem_cons_self).2, ih x h2 fun y hy => ⟨h1 y hy, (hx y (List.mem_cons_of_mem _ hy)).2⟩⟩
    exact key l 0 ha fun x hx => ⟨by have := hm x hx; omega, Int.le_trans (hle x hx) e⟩
theorem isBelowR_f (l : List Int) (n : Int) (hl : l.length ≤ 3000) (h : setB 300 l = true) : PAll.cabinetryref12_isBelow.f l n = some (countB n && setB n l) := by
  rw [PAll.cabinetryref12_isBelow.f]
  unfold countB
  by_cases h0 : 0 ≤ n
  · rw [if_pos h0, decide_eq_true h0]
    by_cases h1 : n ≤ 300
    · rw [if_pos h1, decide_eq_true h1]
      by_cases h2 : (l.length : Int) = 0
      · rw [if_pos h2]
        obtain rfl : l = [] := List.eq_nil_of_length_eq_zero (by omega)
        rfl
      · have hw : wrap64 ((l.length : Int) - 1) = ((l.length - 1 : Nat) : Int) := by rw [wrap_id (by omega) (by omega)]; omega
        rw [if_neg h2, hw, if_pos (by omega), if_pos (by omega), rd_at l _ (by omega), set_last h n h0 (by omega)]
        simp
    · rw [if_neg h1, decide_eq_false h1]
      rfl
  · rw [if_neg h0, decide_eq_false h0]
    rfl
end Go.Proofs.Ytpbdlkbiiglkdaa

/- The reference's And, Or, Not, Any, True, Doubt by contract. -/
set_option linter.unusedVariables false
set_option linter.unusedSimpArgs false
namespace Go.Proofs.Ytpbdlkbiiglkdaa
open Go.RowKit Go.Proofs.YtpbdlkbiiglkdaaW.PrintWords Go.Proofs.YtpbdlkbiiglkdaaW.PrintLast Go.Proofs.YtpbdlkbiiglkdaaW.PrintMore Go.Proofs.Cab

theorem valE_sets {s m : List Int} (h : valE s m = 0) : setB 300 s = true ∧ setB 300 m = true ∧ lessF s m = [] := by
  unfold valE at h
  split at h
  · assumption
  · cases h
theorem bothE_zero {l0 l1 m0 m1 : List Int} : bothE l0 l1 m0 m1 = 0 ↔ valE l0 l1 = 0 ∧ valE m0 m1 = 0 := by
  unfold bothE
  by_cases h : valE l0 l1 = 0
  · rw [if_pos h]; simp [h]
  · rw [if_neg h]; simp [h]
theorem AndR_f (l0 l1 m0 m1 : List Int) (h0 : l0.length ≤ 3000) (h1 : l1.length ≤ 3000) (h2 : m0.length ≤ 3000) (h3 : m1.length ≤ 3000) :
    PAll.cabinetryref12_And.f 8000 l0 l1 m0 m1 = some (bothL (fun a b => a && b) l0 l1 m0 m1 l0 m0, bothL (fun a b => a && b) l0 l1 m0 m1 l1 m1, bothE l0 l1 m0 m1) := by
  rw [PAll.cabinetryref12_And.f, bothR_f _ _ _ _ _ h0 h1 h2 h3 (Nat.le_refl _), Option.bind_some, inBothR_f _ _ _ h0 h2 (Nat.le_refl _), Option.bind_some, inBothR_f _ _ _ h1 h3 (Nat.le_refl _), Option.bind_some]
  unfold bothL
  by_cases h : bothE l0 l1 m0 m1 = 0
  · obtain ⟨a, b⟩ := bothE_zero.1 h
    obtain ⟨a1, a2, _⟩ := valE_sets a
    obtain ⟨b1, b2, _⟩ := valE_sets b
    rw [if_pos h, if_pos ⟨a, b⟩, if_pos ⟨a, b⟩, h, ← bothF_filter (set_asc a1) (set_asc b1), ← bothF_filter (set_asc a2) (set_asc b2)]
    rfl
  · rw [if_neg h, if_neg fun e => h (bothE_zero.2 e), if_neg fun e => h (bothE_zero.2 e)]
theorem OrR_f (l0 l1 m0 m1 : List Int) (h0 : l0.length ≤ 3000) (h1 : l1.length ≤ 3000) (h2 : m0.length ≤ 3000) (h3 : m1.length ≤ 3000) :
    PAll.cabinetryref12_Or.f 8000 l0 l1 m0 m1 = some (bothL (fun a b => a || b) l0 l1 m0 m1 l0 m0, bothL (fun a b => a || b) l0 l1 m0 m1 l1 m1, bothE l0 l1 m0 m1) := by
  rw [PAll.cabinetryref12_Or.f, bothR_f _ _ _ _ _ h0 h1 h2 h3 (Nat.le_refl _), Option.bind_some, eitherR_f _ _ _ h0 h2 (Nat.le_refl _), Option.bind_some, eitherR_f _ _ _ h1 h3 (Nat.le_refl _), Option.bind_some]
  unfold bothL
  by_cases h : bothE l0 l1 m0 m1 = 0
  · obtain ⟨a, b⟩ := bothE_zero.1 h
    obtain ⟨a1, a2, _⟩ := valE_sets a
    obtain ⟨b1, b2, _⟩ := valE_sets b
    rw [if_pos h, if_pos ⟨a, b⟩, if_pos ⟨a, b⟩, h, ← anyF_filter a1 b1, ← anyF_filter a2 b2]
    rfl
  · rw [if_neg h, if_neg fun e => h (bothE_zero.2 e), if_neg fun e => h (bothE_zero.2 e)]
theorem countB_range {n : Int} (h : countB n = true) : 0 ≤ n ∧ n ≤ 300 := by
  unfold countB at h
  simpa using h
theorem NotR_f (l0 l1 : List Int) (n : Int) (h0 : l0.length ≤ 3000) (h1 : l1.length ≤ 3000) :
    PAll.cabinetryref12_Not.f 8000 l0 l1 n = some (notL l0 l1 n l1, notL l0 l1 n l0, notE l0 l1 n) := by
  rw [PAll.cabinetryref12_Not.f, valR_f _ _ _ h0 h1 (Nat.le_refl _), Option.bind_some]
  by_cases h : valE l0 l1 = 0
  · obtain ⟨a1, a2, _⟩ := valE_sets h
    rw [if_pos h, isBelowR_f _ _ h1 a2, Option.bind_some]
    by_cases hc : (countB n && setB n l1) = true
    · obtain ⟨c1, c2⟩ := Bool.and_eq_true_iff.1 hc
      have hn := countB_range c1
      have hu : (upTo n).length ≤ 3000 := by rw [upTo_length]; omega
      have hE : notE l0 l1 n = 0 := by unfold notE; rw [if_pos h, if_pos ⟨c1, c2⟩]
      unfold notL
      rw [if_pos hc, if_pos hE, if_pos hE, hE, upToR_f n _ hn.2 (Nat.le_refl _), Option.bind_some, lessR_f _ _ _ hu h1 (Nat.le_refl _), Option.bind_some, Option.bind_some, lessR_f _ _ _ hu h0 (Nat.le_refl _), Option.bind_some,
        lessF_filter (upTo_asc n) (set_asc a2), lessF_filter (upTo_asc n) (set_asc a1)]
    · have hE : notE l0 l1 n = 1 := by unfold notE; rw [if_pos h, if_neg fun e => hc (Bool.and_eq_true_iff.2 e)]
      unfold notL
      rw [if_neg hc, hE, if_neg (by decide), if_neg (by decide)]
  · have hz : ¬ notE l0 l1 n = 0 := by unfold notE; rw [if_neg h]; exact h
    rw [if_neg h]
    unfold notL
    rw [if_neg hz, if_neg hz]
    unfold notE
    rw [if_neg h]
def anyE (n : Int) : Int := if countB n = true then 0 else 1
def anyL (n : Int) : List Int := if countB n = true then upTo n else []
theorem AnyR_f (n : Int) : PAll.cabinetryref12_Any.f 8000 n = some ([], anyL n, anyE n) := by
  rw [PAll.cabinetryref12_Any.f, isBelowR_f _ _ (by simp) rfl, Option.bind_some, show setB n [] = true from rfl, Bool.and_true]
  unfold anyL anyE
  by_cases h : countB n = true
  · rw [if_pos h, if_pos h, if_pos h, upToR_f n _ (countB_range h).2 (Nat.le_refl _), Option.bind_some]
  · rw [if_neg h, if_neg h, if_neg h]
theorem isCount_f (n : Int) : PAll.bits_isCount.f n = some (countB n) := by
  unfold PAll.bits_isCount.f countB
  by_cases h : 0 ≤ n
  · rw [if_pos h, decide_eq_true h]; rfl
  · rw [if_neg h, decide_eq_false h]; rfl
theorem all_f (n : Int) (hn : n ≤ 300) : PAll.bits_all.f (n.toNat + 1) n = some (upTo n) := by
  have := all_l0 n hn n.toNat 0 (by omega) (by omega)
  simpa [PAll.bits_all.f] using this
theorem Any_f (n : Int) : ∃ k, PAll.bits_Any.f k n = some ([], anyL n, anyE n) := by
  refine ⟨n.toNat + 1, ?_⟩
  rw [PAll.bits_Any.f, isCount_f, Option.bind_some]
  unfold anyL anyE
  by_cases h : countB n = true
  · rw [if_pos h, if_pos h, if_pos h, all_f n (countB_range h).2, Option.bind_some]
  · rw [if_neg h, if_neg h, if_neg h]
/-- What True answers. -/
def trueE (l0 l1 l : List Int) : Int := if valE l0 l1 = 0 then (if setB 300 l = true then 0 else 1) else valE l0 l1
def trueB (l0 l1 l : List Int) : Bool := if trueE l0 l1 l = 0 then (decide (lessF l0 l = []) && decide (lessF l l1 = [])) else false
theorem TrueR_f (l0 l1 l : List Int) (h0 : l0.length ≤ 3000) (h1 : l1.length ≤ 3000) (h2 : l.length ≤ 3000) : PAll.cabinetryref12_True.f 8000 l0 l1 l = some (trueB l0 l1 l, trueE l0 l1 l) := by
  rw [PAll.cabinetryref12_True.f, valR_f _ _ _ h0 h1 (Nat.le_refl _), Option.bind_some]
  unfold trueB trueE
  by_cases h : valE l0 l1 = 0
  · obtain ⟨a1, a2, _⟩ := valE_sets h
    rw [if_pos h, if_pos h, isSetR_f _ _ (by omega) (by omega), Option.bind_some]
    by_cases hc : setB 300 l = true
    · rw [if_pos hc, if_pos hc, if_pos rfl, lessR_f _ _ _ h0 h2 (Nat.le_refl _), Option.bind_some, lessR_f _ _ _ h2 h1 (Nat.le_refl _), Option.bind_some, ← lessF_filter (set_asc a1) (set_asc hc), ← lessF_filter (set_asc hc) (set_asc a2)]
      by_cases h3 : lessF l0 l = []
      · rw [h3, if_pos (show (([] : List Int).length : Int) = 0 from rfl)]
        have e : (((lessF l l1).length : Int) == 0) = decide (lessF l l1 = []) := by
          cases lessF l l1 with
          | nil => rfl
          | cons x t => rw [decide_eq_false (by simp)]; simp only [List.length_cons, beq_eq_false_iff_ne]; omega
        rw [e]
        rfl
      · rw [if_neg (by intro e; exact h3 (List.eq_nil_of_length_eq_zero (by omega)))]
        simp [h3]
    · rw [if_neg hc, if_neg hc, if_neg (by decide)]
  · rw [if_neg h, if_neg h, if_neg h]
def doubtL (l0 l1 : List Int) : List Int := if valE l0 l1 = 0 then lessF l1 l0 else []
theorem DoubtR_f (l0 l1 : List Int) (h0 : l0.length ≤ 3000) (h1 : l1.length ≤ 3000) : PAll.cabinetryref12_Doubt.f 8000 l0 l1 = some (doubtL l0 l1, valE l0 l1) := by
  rw [PAll.cabinetryref12_Doubt.f, valR_f _ _ _ h0 h1 (Nat.le_refl _), Option.bind_some]
  unfold doubtL
  by_cases h : valE l0 l1 = 0
  · obtain ⟨a1, a2, _⟩ := valE_sets h
    rw [if_pos h, if_pos h, lessR_f _ _ _ h1 h0 (Nat.le_refl _), Option.bind_some, ← lessF_filter (set_asc a2) (set_asc a1), h]
  · rw [if_neg h, if_neg h]

theorem own_of_R {w : World} {base : Nat} {ok : Nat → Prop} {v : Value} {xs : List Int} (h : Kd.R (Kd.int .i64) 3 w base ok v xs) : Own w base v xs := Kd.R_mono h fun _ _ => trivial
section
variable (Ax0 : Option Addr) (cx0 : Nat) (lx0 : List Int) (Ax1 : Option Addr) (cx1 : Nat) (lx1 : List Int) (Ay0 : Option Addr) (cy0 : Nat) (ly0 : List Int) (Ay1 : Option Addr) (cy1 : Nat) (ly1 : List Int) (Al : Option Addr) (cl : Nat) (ll : List Int) (n : Int) (w : World)
theorem ValidateR_any (hrx0 : Kd.C (Kd.int .i64) w Ax0 lx0.length lx0) (hcx0 : lx0.length ≤ cx0) (hrx1 : Kd.C (Kd.int .i64) w Ax1 lx1.length lx1) (hcx1 : lx1.length ≤ cx1) (hl0 : lx0.length ≤ 3000) (hl1 : lx1.length ≤ 3000) :
    Calls Try.prog 23 #[.agg #[.slice Ax0 lx0.length cx0, .slice Ax1 lx1.length cx1]] w fun e w' => e = .returned (.int .i64 (valE lx0 lx1)) ∧ Below w.heap.size w w' :=
  PAll.cabinetryref12_Validate.calls 8000 Ax0 cx0 lx0 Ax1 cx1 lx1 _ w hrx0 hcx0 hrx1 hcx1 (valR_f _ _ _ hl0 hl1 (Nat.le_refl _))
theorem AndR_any (hrx0 : Kd.C (Kd.int .i64) w Ax0 lx0.length lx0) (hcx0 : lx0.length ≤ cx0) (hrx1 : Kd.C (Kd.int .i64) w Ax1 lx1.length lx1) (hcx1 : lx1.length ≤ cx1) (hry0 : Kd.C (Kd.int .i64) w Ay0 ly0.length ly0) (hcy0 : ly0.length ≤ cy0) (hry1 : Kd.C (Kd.int .i64) w Ay1 ly1.length ly1) (hcy1 : ly1.length ≤ cy1) (h0 : lx0.length ≤ 3000) (h1 : lx1.length ≤ 3000) (h2 : ly0.length ≤ 3000) (h3 : ly1.length ≤ 3000) :
    Calls Try.prog 18 #[.agg #[.slice Ax0 lx0.length cx0, .slice Ax1 lx1.length cx1], .agg #[.slice Ay0 ly0.length cy0, .slice Ay1 ly1.length cy1]] w fun e w' => ∃ v0 v1 : Value, e = .returned (.tuple #[.agg #[v0, v1], .int .i64 (bothE lx0 lx1 ly0 ly1)]) ∧
      Own w' w.heap.size v0 (bothL (fun a b => a && b) lx0 lx1 ly0 ly1 lx0 ly0) ∧ Own w' w.heap.size v1 (bothL (fun a b => a && b) lx0 lx1 ly0 ly1 lx1 ly1) ∧ Below w.heap.size w w' :=
  (PAll.cabinetryref12_And.calls 8000 Ax0 cx0 lx0 Ax1 cx1 lx1 Ay0 cy0 ly0 Ay1 cy1 ly1 _ _ _ w hrx0 hcx0 hrx1 hcx1 hry0 hcy0 hry1 hcy1 (AndR_f _ _ _ _ h0 h1 h2 h3)).mono fun e w' ⟨v0, v1, he, ho0, ho1, hb⟩ => ⟨v0, v1, he, own_of_R ho0, own_of_R ho1, hb⟩
theorem OrR_any (hrx0 : Kd.C (Kd.int .i64) w Ax0 lx0.length lx0) (hcx0 : lx0.length ≤ cx0) (hrx1 : Kd.C (Kd.int .i64) w Ax1 lx1.length lx1) (hcx1 : lx1.length ≤ cx1) (hry0 : Kd.C (Kd.int .i64) w Ay0 ly0.length ly0) (hcy0 : ly0.length ≤ cy0) (hry1 : Kd.C (Kd.int .i64) w Ay1 ly1.length ly1) (hcy1 : ly1.length ≤ cy1) (h0 : lx0.length ≤ 3000) (h1 : lx1.length ≤ 3000) (h2 : ly0.length ≤ 3000) (h3 : ly1.length ≤ 3000) :
    Calls Try.prog 20 #[.agg #[.slice Ax0 lx0.length cx0, .slice Ax1 lx1.length cx1], .agg #[.slice Ay0 ly0.length cy0, .slice Ay1 ly1.length cy1]] w fun e w' => ∃ v0 v1 : Value, e = .returned (.tuple #[.agg #[v0, v1], .int .i64 (bothE lx0 lx1 ly0 ly1)]) ∧
      Own w' w.heap.size v0 (bothL (fun a b => a || b) lx0 lx1 ly0 ly1 lx0 ly0) ∧ Own w' w.heap.size v1 (bothL (fun a b => a || b) lx0 lx1 ly0 ly1 lx1 ly1) ∧ Below w.heap.size w w' :=
  (PAll.cabinetryref12_Or.calls 8000 Ax0 cx0 lx0 Ax1 cx1 lx1 Ay0 cy0 ly0 Ay1 cy1 ly1 _ _ _ w hrx0 hcx0 hrx1 hcx1 hry0 hcy0 hry1 hcy1 (OrR_f _ _ _ _ h0 h1 h2 h3)).mono fun e w' ⟨v0, v1, he, ho0, ho1, hb⟩ => ⟨v0, v1, he, own_of_R ho0, own_of_R ho1, hb⟩
theorem NotR_any (hrx0 : Kd.C (Kd.int .i64) w Ax0 lx0.length lx0) (hcx0 : lx0.length ≤ cx0) (hrx1 : Kd.C (Kd.int .i64) w Ax1 lx1.length lx1) (hcx1 : lx1.length ≤ cx1) (h0 : lx0.length ≤ 3000) (h1 : lx1.length ≤ 3000) :
    Calls Try.prog 27 #[.agg #[.slice Ax0 lx0.length cx0, .slice Ax1 lx1.length cx1], .int .i64 n] w fun e w' => ∃ v0 v1 : Value, e = .returned (.tuple #[.agg #[v0, v1], .int .i64 (notE lx0 lx1 n)]) ∧
      Own w' w.heap.size v0 (notL lx0 lx1 n lx1) ∧ Own w' w.heap.size v1 (notL lx0 lx1 n lx0) ∧ Below w.heap.size w w' :=
  (PAll.cabinetryref12_Not.calls 8000 Ax0 cx0 lx0 Ax1 cx1 lx1 n _ _ _ w hrx0 hcx0 hrx1 hcx1 (NotR_f _ _ _ h0 h1)).mono fun e w' ⟨v0, v1, he, ho0, ho1, hb⟩ => ⟨v0, v1, he, own_of_R ho0, own_of_R ho1, hb⟩
theorem TrueR_any (hrx0 : Kd.C (Kd.int .i64) w Ax0 lx0.length lx0) (hcx0 : lx0.length ≤ cx0) (hrx1 : Kd.C (Kd.int .i64) w Ax1 lx1.length lx1) (hcx1 : lx1.length ≤ cx1) (hrl : Kd.C (Kd.int .i64) w Al ll.length ll) (hcl : ll.length ≤ cl) (h0 : lx0.length ≤ 3000) (h1 : lx1.length ≤ 3000) (h2 : ll.length ≤ 3000) :
    Calls Try.prog 31 #[.agg #[.slice Ax0 lx0.length cx0, .slice Ax1 lx1.length cx1], .slice Al ll.length cl] w fun e w' => e = .returned (.tuple #[.bool (trueB lx0 lx1 ll), .int .i64 (trueE lx0 lx1 ll)]) ∧ Below w.heap.size w w' :=
  PAll.cabinetryref12_True.calls 8000 Ax0 cx0 lx0 Ax1 cx1 lx1 Al cl ll _ _ w hrx0 hcx0 hrx1 hcx1 hrl hcl (TrueR_f _ _ _ h0 h1 h2)
def overB (l0 l1 : List Int) : Bool := decide ((l0.length : Int) > 3000) || decide ((l1.length : Int) > 3000)
theorem over_f (l0 l1 : List Int) : PAll.cabinetrylaw12_over.f l0 l1 = some (overB l0 l1) := by
  unfold PAll.cabinetrylaw12_over.f overB
  by_cases h : (l0.length : Int) > 3000
  · rw [if_pos h, decide_eq_true h]; rfl
  · rw [if_neg h, decide_eq_false h]; rfl
theorem over_any (hrx0 : Kd.C (Kd.int .i64) w Ax0 lx0.length lx0) (hcx0 : lx0.length ≤ cx0) (hrx1 : Kd.C (Kd.int .i64) w Ax1 lx1.length lx1) (hcx1 : lx1.length ≤ cx1) : Calls Try.prog 16 #[.agg #[.slice Ax0 lx0.length cx0, .slice Ax1 lx1.length cx1]] w fun e w' => e = .returned (.bool (overB lx0 lx1)) ∧ Below w.heap.size w w' :=
  PAll.cabinetrylaw12_over.calls Ax0 cx0 lx0 Ax1 cx1 lx1 _ w hrx0 hcx0 hrx1 hcx1 (over_f _ _)
theorem overB_false {l0 l1 : List Int} (h : overB l0 l1 = false) : l0.length ≤ 3000 ∧ l1.length ≤ 3000 := by
  unfold overB at h
  simp at h
  omega
end
end Go.Proofs.Ytpbdlkbiiglkdaa

/- The law BitsJoins, walked. -/
set_option linter.unusedVariables false
set_option linter.unusedSimpArgs false
namespace Go.Proofs.Ytpbdlkbiiglkdaa
open Go.RowKit Go.Proofs.YtpbdlkbiiglkdaaW.PrintWords Go.Proofs.YtpbdlkbiiglkdaaW.PrintLast Go.Proofs.YtpbdlkbiiglkdaaW.PrintMore Go.Proofs.Cab

/-- Knowledge in a box of its own. -/
def Held (w : World) (b : Nat) (v0 v1 : Value) : Prop := w.heap[b]? = some (.cells #[v0, v1] 29 (0, 0)) ∧ b < w.heap.size
theorem Held.new (w : World) (v0 v1 : Value) : Held (w.alloc (.cells #[v0, v1] 29)) w.heap.size v0 v1 := ⟨blk_new _ _, by rw [alloc_size]; omega⟩
theorem Held.below {w w1 : World} {b : Nat} {v0 v1 : Value} (h : Held w b v0 v1) (hb : Below w.heap.size w w1) : Held w1 b v0 v1 := ⟨(hb.block b h.2).trans h.1, Nat.lt_of_lt_of_le h.2 hb.size⟩
theorem Held.alloc {w : World} {b : Nat} {v0 v1 : Value} (h : Held w b v0 v1) (o : Obj) : Held (w.alloc o) b v0 v1 := h.below (below_alloc (Below.refl _ _) _)
theorem Held.c0 {w : World} {b : Nat} {v0 v1 : Value} (h : Held w b v0 v1) : w.cell? ⟨b, 0, none⟩ = some v0 := (blk_cell h.1 0).trans rfl
theorem Held.c1 {w : World} {b : Nat} {v0 v1 : Value} (h : Held w b v0 v1) : w.cell? ⟨b, 1, none⟩ = some v1 := (blk_cell h.1 1).trans rfl
theorem Held.at_ {w : World} {b n : Nat} {v0 v1 : Value} (h : Held w b v0 v1) (e : b = n) : Held w n v0 v1 := e ▸ h

end Go.Proofs.Ytpbdlkbiiglkdaa

/- The complement of an intersection is the union of the complements; in plain Lean. -/
set_option linter.unusedVariables false
set_option linter.unusedSimpArgs false
namespace Go.Proofs.Ytpbdlkbiiglkdaa
open Go.RowKit Go.Proofs.YtpbdlkbiiglkdaaW.PrintWords Go.Proofs.YtpbdlkbiiglkdaaW.PrintLast Go.Proofs.YtpbdlkbiiglkdaaW.PrintMore Go.Proofs.Cab
theorem setB_of : ∀ (n : Int) (l : List Int), l.Pairwise (· < ·) → (∀ x ∈ l, 1 ≤ x ∧ x ≤ n) → setB n l = true := by
  have key : ∀ (n : Int) (l : List Int) (p : Int), l.Pairwise (· < ·) → (∀ x ∈ l, p < x ∧ x ≤ n) → setFrom n p l = true := by
    intro n l
    induction l with
    | nil => exact fun _ _ _ => rfl
    | cons x l ih =>
      intro p hp hx
      obtain ⟨h1, h2⟩ := List.pairwise_cons.1 hp
      simp only [setFrom, Bool.and_eq_true, decide_eq_true_eq]
      exact ⟨(hx x List.mem_cons_self).1, (hx x List.mem_cons_self).2, ih x h2 fun y hy => ⟨h1 y hy, (hx y (List.mem_cons_of_mem _ hy)).2⟩⟩
  exact fun n l hp hx => key n l 0 hp fun x hx' => by have := hx x hx'; omega
theorem valE_iff {s m : List Int} : valE s m = 0 ↔ setB 300 s = true ∧ setB 300 m = true ∧ ∀ x ∈ s, x ∈ m := by
  constructor
  · intro h
    obtain ⟨a, b, c⟩ := valE_sets h
    rw [lessF_filter (set_asc a) (set_asc b), filter_mem_nil] at c
    exact ⟨a, b, c⟩
  · rintro ⟨a, b, c⟩
    unfold valE
    rw [if_pos ⟨a, b, by rw [lessF_filter (set_asc a) (set_asc b), filter_mem_nil]; exact c⟩]
theorem notE_iff {s m : List Int} {n : Int} : notE s m n = 0 ↔ valE s m = 0 ∧ (0 ≤ n ∧ n ≤ 300) ∧ setB n m = true := by
  unfold notE
  by_cases h : valE s m = 0
  · rw [if_pos h]
    constructor
    · intro e
      split at e
      · rename_i hc
        exact ⟨h, countB_range hc.1, hc.2⟩
      · cases e
    · rintro ⟨_, c, d⟩
      rw [if_pos ⟨by unfold countB; simp [c], d⟩]
  · rw [if_neg h]
    exact ⟨fun e => absurd e h, fun e => absurd e.1 h⟩
theorem lessF_spec {l g : List Int} (hl : l.Pairwise (· < ·)) (hg : g.Pairwise (· < ·)) : (lessF l g).Pairwise (· < ·) ∧ ∀ z, z ∈ lessF l g ↔ z ∈ l ∧ z ∉ g := by
  rw [lessF_filter hl hg]
  exact ⟨filter_asc _ hl, fun z => by simp⟩
theorem notL_spec {s m l : List Int} {n : Int} (h : notE s m n = 0) (hl : l.Pairwise (· < ·)) : (notL s m n l).Pairwise (· < ·) ∧ ∀ z, z ∈ notL s m n l ↔ (1 ≤ z ∧ z ≤ n) ∧ z ∉ l := by
  unfold notL
  rw [if_pos h]
  obtain ⟨a, b⟩ := lessF_spec (upTo_asc n) hl
  exact ⟨a, fun z => by rw [b, upTo_mem]⟩
theorem bothL_spec (f : Bool → Bool → Bool) (hf : f false false = false) {s m t u a b : List Int} (h1 : valE s m = 0) (h2 : valE t u = 0) (ha : a.Pairwise (· < ·)) (hb : b.Pairwise (· < ·)) :
    (bothL f s m t u a b).Pairwise (· < ·) ∧ ∀ z, z ∈ bothL f s m t u a b ↔ f (decide (z ∈ a)) (decide (z ∈ b)) = true := by
  unfold bothL
  rw [if_pos ⟨h1, h2⟩]
  obtain ⟨x, y⟩ := joinF_spec f hf _ a b rfl ha hb
  exact ⟨y, x⟩
theorem morgan_law {x0 x1 y0 y1 La0 La1 Lb0 Lb1 Lp0 Lp1 Lc0 Lc1 Ld0 Ld1 Le0 Le1 : List Int} {n : Int} (hE : notE x0 x1 n = 0) (hF : notE y0 y1 n = 0)
    (hLa0 : notL x0 x1 n x1 = La0) (hLa1 : notL x0 x1 n x0 = La1) (hLb0 : notL y0 y1 n y1 = Lb0) (hLb1 : notL y0 y1 n y0 = Lb1)
    (hLp0 : bothL (fun a b => a && b) x0 x1 y0 y1 x0 y0 = Lp0) (hLp1 : bothL (fun a b => a && b) x0 x1 y0 y1 x1 y1 = Lp1)
    (hLc0 : notL Lp0 Lp1 n Lp1 = Lc0) (hLc1 : notL Lp0 Lp1 n Lp0 = Lc1)
    (hLd0 : bothL (fun a b => a || b) La0 La1 Lb0 Lb1 La0 Lb0 = Ld0) (hLd1 : bothL (fun a b => a || b) La0 La1 Lb0 Lb1 La1 Lb1 = Ld1)
    (hLe0 : notL La0 La1 n La1 = Le0) (hLe1 : notL La0 La1 n La0 = Le1) : Lc0 = Ld0 ∧ Lc1 = Ld1 ∧ Le0 = x0 ∧ Le1 = x1 := by
  obtain ⟨ex, hn, sx⟩ := notE_iff.1 hE
  obtain ⟨ey, _, sy⟩ := notE_iff.1 hF
  obtain ⟨ax0, ax1, sub1⟩ := valE_iff.1 ex
  obtain ⟨ay0, ay1, sub2⟩ := valE_iff.1 ey
  obtain ⟨pa0, ma0⟩ := notL_spec hE (set_asc ax1)
  obtain ⟨pa1, ma1⟩ := notL_spec hE (set_asc ax0)
  obtain ⟨pb0, mb0⟩ := notL_spec hF (set_asc ay1)
  obtain ⟨pb1, mb1⟩ := notL_spec hF (set_asc ay0)
  rw [hLa0] at pa0 ma0
  rw [hLa1] at pa1 ma1
  rw [hLb0] at pb0 mb0
  rw [hLb1] at pb1 mb1
  obtain ⟨pp0, mp0⟩ := bothL_spec (fun a b => a && b) rfl ex ey (set_asc ax0) (set_asc ay0)
  obtain ⟨pp1, mp1⟩ := bothL_spec (fun a b => a && b) rfl ex ey (set_asc ax1) (set_asc ay1)
  rw [hLp0] at pp0 mp0
  rw [hLp1] at pp1 mp1
  simp only [Bool.and_eq_true, decide_eq_true_eq] at mp0 mp1
  have hx1 := set_mem sx
  have hy1 := set_mem sy
  have vp : valE Lp0 Lp1 = 0 := valE_iff.2 ⟨setB_of _ _ pp0 fun z hz => by have := set_mem ax0 z ((mp0 z).1 hz).1; omega, setB_of _ _ pp1 fun z hz => by have := set_mem ax1 z ((mp1 z).1 hz).1; omega,
    fun z hz => (mp1 z).2 ⟨sub1 z ((mp0 z).1 hz).1, sub2 z ((mp0 z).1 hz).2⟩⟩
  have eP : notE Lp0 Lp1 n = 0 := notE_iff.2 ⟨vp, hn, setB_of _ _ pp1 fun z hz => hx1 z ((mp1 z).1 hz).1⟩
  obtain ⟨pc0, mc0⟩ := notL_spec eP pp1
  obtain ⟨pc1, mc1⟩ := notL_spec eP pp0
  rw [hLc0] at pc0 mc0
  rw [hLc1] at pc1 mc1
  have va : valE La0 La1 = 0 := valE_iff.2 ⟨setB_of _ _ pa0 fun z hz => by have := (ma0 z).1 hz; omega, setB_of _ _ pa1 fun z hz => by have := (ma1 z).1 hz; omega,
    fun z hz => (ma1 z).2 ⟨((ma0 z).1 hz).1, fun e => ((ma0 z).1 hz).2 (sub1 z e)⟩⟩
  have vb : valE Lb0 Lb1 = 0 := valE_iff.2 ⟨setB_of _ _ pb0 fun z hz => by have := (mb0 z).1 hz; omega, setB_of _ _ pb1 fun z hz => by have := (mb1 z).1 hz; omega,
    fun z hz => (mb1 z).2 ⟨((mb0 z).1 hz).1, fun e => ((mb0 z).1 hz).2 (sub2 z e)⟩⟩
  obtain ⟨pd0, md0⟩ := bothL_spec (fun a b => a || b) rfl va vb pa0 pb0
  obtain ⟨pd1, md1⟩ := bothL_spec (fun a b => a || b) rfl va vb pa1 pb1
  rw [hLd0] at pd0 md0
  rw [hLd1] at pd1 md1
  simp only [Bool.or_eq_true, decide_eq_true_eq] at md0 md1
  have eA : notE La0 La1 n = 0 := notE_iff.2 ⟨va, hn, setB_of _ _ pa1 fun z hz => ((ma1 z).1 hz).1⟩
  obtain ⟨pe0, me0⟩ := notL_spec eA pa1
  obtain ⟨pe1, me1⟩ := notL_spec eA pa0
  rw [hLe0] at pe0 me0
  rw [hLe1] at pe1 me1
  refine ⟨sorted_ext pc0 pd0 fun z => ?_, sorted_ext pc1 pd1 fun z => ?_, sorted_ext pe0 (set_asc ax0) fun z => ?_, sorted_ext pe1 (set_asc ax1) fun z => ?_⟩
  · rw [mc0, md0, ma0, mb0, mp1]
    by_cases a : z ∈ x1 <;> by_cases b : z ∈ y1 <;> simp [a, b]
  · rw [mc1, md1, ma1, mb1, mp0]
    by_cases a : z ∈ x0 <;> by_cases b : z ∈ y0 <;> simp [a, b]
  · rw [me0, ma1]
    constructor
    · rintro ⟨a, b⟩
      exact Classical.byContradiction fun c => b ⟨a, c⟩
    · intro a
      exact ⟨hx1 z (sub1 z a), fun b => b.2 a⟩
  · rw [me1, ma0]
    constructor
    · rintro ⟨a, b⟩
      exact Classical.byContradiction fun c => b ⟨a, c⟩
    · intro a
      exact ⟨hx1 z a, fun b => b.2 a⟩
end Go.Proofs.Ytpbdlkbiiglkdaa

/- Doubt and True by contract. -/
set_option linter.unusedVariables false
set_option linter.unusedSimpArgs false
namespace Go.Proofs.Ytpbdlkbiiglkdaa
open Go.RowKit Go.Proofs.YtpbdlkbiiglkdaaW.PrintWords Go.Proofs.YtpbdlkbiiglkdaaW.PrintLast Go.Proofs.YtpbdlkbiiglkdaaW.PrintMore Go.Proofs.Cab
theorem isSetB_any (A0 : Option Addr) (c0 : Nat) (l0 : List Int) (n : Int) (w : World) (hr0 : Kd.C (Kd.int .i64) w A0 l0.length l0) (hc0 : l0.length ≤ c0) :
    Calls Try.prog 47 #[.slice A0 l0.length c0, .int .i64 n] w fun e w' => e = .returned (.bool (setB n l0)) ∧ Below w.heap.size w w' :=
  (isSet_any A0 c0 l0 n w hr0 hc0).mono fun e w' ⟨he, m, hm⟩ => ⟨he, hm ▸ pw_below_drewN (Below.refl _ _) m⟩
set_option maxHeartbeats 4000000 in
set_option maxRecDepth 100000 in
theorem True_any (Ax0 : Option Addr) (cx0 : Nat) (lx0 : List Int) (Ax1 : Option Addr) (cx1 : Nat) (lx1 : List Int) (Al : Option Addr) (cl : Nat) (ll : List Int) (w : World) (hrx0 : Kd.C (Kd.int .i64) w Ax0 lx0.length lx0) (hcx0 : lx0.length ≤ cx0) (hrx1 : Kd.C (Kd.int .i64) w Ax1 lx1.length lx1) (hcx1 : lx1.length ≤ cx1) (hrl : Kd.C (Kd.int .i64) w Al ll.length ll) (hcl : ll.length ≤ cl) :
    Calls Try.prog 30 #[.agg #[.slice Ax0 lx0.length cx0, .slice Ax1 lx1.length cx1], .slice Al ll.length cl] w fun e w' => e = .returned (.tuple #[.bool (trueB lx0 lx1 ll), .int .i64 (trueE lx0 lx1 ll)]) ∧ Below w.heap.size w w' := by
  have HRx0 := Aside0.mk hrx0
  have HCx0 := Aside0.mk hcx0
  have HRx1 := Aside0.mk hrx1
  have HCx1 := Aside0.mk hcx1
  have HRl := Aside0.mk hrl
  have HCl := Aside0.mk hcl
  clear hrx0 hcx0 hrx1 hcx1 hrl hcl
  have hu22 := Try.underlying22
  have hu29 := Try.underlying29
  have HB := Aside0.mk (Below.refl w.heap.size w)
  go_enter Try.func30, Try.ntmps30
  obtain ⟨w1, hW1⟩ : ∃ x, w.alloc (.cells #[.slice Ax0 lx0.length cx0, .slice Ax1 lx1.length cx1] 29) = x := ⟨_, rfl⟩
  have hb : Below w.heap.size w w1 := by rw [← hW1]; exact below_alloc (Below.refl _ _) _
  replace HB := Aside0.mk (below_step HB.out hb)
  replace HRx0 := Aside0.mk (Kd.C_below HRx0.out hb)
  replace HRx1 := Aside0.mk (Kd.C_below HRx1.out hb)
  replace HRl := Aside0.mk (Kd.C_below HRl.out hb)
  clear hb
  have KX : Aside0 (Held w1 (w.heap.size) (.slice Ax0 lx0.length cx0) (.slice Ax1 lx1.length cx1)) := ⟨by rw [← hW1]; exact Held.new _ _ _⟩
  have hX0 := KX.out.c0
  rw [← hW1] at hX0
  have hX1 := KX.out.c1
  rw [← hW1] at hX1
  have AhW1 := Aside0.mk hW1
  clear hW1
  go_wp2_with fail
  clear hX0 hX1
  rw [AhW1.out]
  clear AhW1
  refine (Validate_any Ax0 cx0 lx0 Ax1 cx1 lx1 _ HRx0.out HCx0.out HRx1.out HCx1.out).mono ?_
  rintro e w2 ⟨rfl, hb⟩
  replace HB := Aside0.mk (below_step HB.out hb)
  replace HRx0 := Aside0.mk (Kd.C_below HRx0.out hb)
  replace HRx1 := Aside0.mk (Kd.C_below HRx1.out hb)
  replace HRl := Aside0.mk (Kd.C_below HRl.out hb)
  replace KX := Aside0.mk (KX.out.below hb)
  clear hb
  by_cases hv : valE lx0 lx1 = 0
  ·
    have hv1 : (valE lx0 lx1 == 0) = true := by simpa using hv
    have hv2 : (valE lx0 lx1 != 0) = false := by simpa using hv
    have HV := Aside0.mk hv
    clear hv
    have HN := Aside0.mk (valE_len HV.out)
    go_wp2_with fail
    refine (isSetB_any Al cl ll 300 _ HRl.out HCl.out).mono ?_
    rintro e w3 ⟨rfl, hb⟩
    replace HB := Aside0.mk (below_step HB.out hb)
    replace HRx0 := Aside0.mk (Kd.C_below HRx0.out hb)
    replace HRx1 := Aside0.mk (Kd.C_below HRx1.out hb)
    replace HRl := Aside0.mk (Kd.C_below HRl.out hb)
    replace KX := Aside0.mk (KX.out.below hb)
    clear hb
    cases hs : setB 300 ll
    · have HS := Aside0.mk hs
      clear hs
      go_wp2_with fail
      go_ret2
      exact ⟨by rw [trueB, trueE, if_pos HV.out, HS.out]; rfl, HB.out⟩
    · have HS := Aside0.mk hs
      clear hs
      have HM := Aside0.mk (setB_length HS.out)
      have hX0 := KX.out.c0
      have hX1 := KX.out.c1
      go_wp2_with fail
      clear hX0 hX1
      refine (joined_calls 50 (fun a b => a && !b) enters50 inFirst_any Ax0 cx0 lx0 Al cl ll _ HRx0.out HCx0.out HRl.out HCl.out (by have := HN.out; omega) (by have := HM.out; omega)).mono ?_
      rintro e w4 ⟨v, rfl, ho, hb⟩
      replace HB := Aside0.mk (below_step HB.out hb)
      replace HRx0 := Aside0.mk (Kd.C_below HRx0.out hb)
      replace HRx1 := Aside0.mk (Kd.C_below HRx1.out hb)
      replace HRl := Aside0.mk (Kd.C_below HRl.out hb)
      replace KX := Aside0.mk (KX.out.below hb)
      clear hb
      have hl : joinF (fun a b => a && !b) lx0 ll = lessF lx0 ll := rfl
      rw [hl] at ho
      clear hl
      obtain ⟨A5, c5, rfl, _⟩ := Own.slice ho
      clear ho
      cases hL : lessF lx0 ll
      · have HL := Aside0.mk hL
        clear hL
        have hX0 := KX.out.c0
        have hX1 := KX.out.c1
        go_wp2_with fail
        clear hX0 hX1
        refine (joined_calls 50 (fun a b => a && !b) enters50 inFirst_any Al cl ll Ax1 cx1 lx1 _ HRl.out HCl.out HRx1.out HCx1.out (by have := HM.out; omega) (by have := HN.out; omega)).mono ?_
        rintro e w5 ⟨v, rfl, ho, hb⟩
        replace HB := Aside0.mk (below_step HB.out hb)
        replace HRx0 := Aside0.mk (Kd.C_below HRx0.out hb)
        replace HRx1 := Aside0.mk (Kd.C_below HRx1.out hb)
        replace HRl := Aside0.mk (Kd.C_below HRl.out hb)
        replace KX := Aside0.mk (KX.out.below hb)
        clear hb
        have hl : joinF (fun a b => a && !b) ll lx1 = lessF ll lx1 := rfl
        rw [hl] at ho
        clear hl
        obtain ⟨A6, c6, rfl, _⟩ := Own.slice ho
        clear ho
        cases hM : lessF ll lx1
        all_goals
          have HK := Aside0.mk hM
          clear hM
          go_wp2_with fail
          go_ret2
          exact ⟨by first | (simp [trueB, trueE, HV.out, HS.out, HL.out, HK.out]; done) | (simp [trueB, trueE, HV.out, HS.out, HL.out, HK.out]; omega), HB.out⟩
      · have HL := Aside0.mk hL
        clear hL
        go_wp2_with fail
        go_ret2
        exact ⟨by simp [trueB, trueE, HV.out, HS.out, HL.out], HB.out⟩
  ·
    have hv1 : (valE lx0 lx1 == 0) = false := by simpa using hv
    have hv2 : (valE lx0 lx1 != 0) = true := by simpa using hv
    have HV := Aside0.mk hv
    clear hv
    go_wp2_with fail
    go_ret2
    exact ⟨by rw [trueB, trueE, if_neg HV.out, if_neg HV.out]; rfl, HB.out⟩
end Go.Proofs.Ytpbdlkbiiglkdaa

/- Several rows of one's own grow side by side; what is true of a set's intersection, union and complement; in plain Lean. -/
set_option linter.unusedVariables false
set_option linter.unusedSimpArgs false
namespace Go.Proofs.Ytpbdlkbiiglkdaa
open Go.RowKit Go.Proofs.YtpbdlkbiiglkdaaW.PrintWords Go.Proofs.YtpbdlkbiiglkdaaW.PrintLast Go.Proofs.YtpbdlkbiiglkdaaW.PrintMore Go.Proofs.Cab
/-- Two values do not share a block of their own. -/
def Apart2 (u v : Value) : Prop := ∀ k, u.ownBlock = some k → v.ownBlock ≠ some k
theorem Apart2.nil (v : Value) : Apart2 (.slice none 0 0) v := fun k h => by simp [Value.ownBlock] at h
theorem Apart2.symm {u v : Value} (h : Apart2 u v) : Apart2 v u := fun k hk hu => h k hu hk
theorem own_keep {W w1 : World} {base : Nat} {u v : Value} {l : List Int} (hu : Own W base u l) (ha : Apart2 u v) (hg : W.grownBy w1 v.ownBlock) : Own w1 base u l := by
  have h1 := Kd.R_flat (ok' := fun k => u.ownBlock = some k ∧ k < W.heap.size) (fun h => h) (Kd.R_bound hu) (fun k hk h => ⟨hk, h.2.2.1⟩)
  exact Kd.R_mono (Kd.R_move h1 fun k hk => hg.block k hk.2 fun e => ha k hk.1 e.symm) fun _ _ => trivial
theorem apart_new {W : World} {base : Nat} {u v v1 : Value} {l : List Int} (hu : Own W base u l) (ha : Apart2 u v) (hv : v1.ownBlock = v.ownBlock ∨ ∃ b, v1.ownBlock = some b ∧ W.heap.size ≤ b) : Apart2 u v1 := by
  intro k hk he
  rcases hv with hv | ⟨b, hb, hs⟩
  · exact ha k hk (hv ▸ he)
  · have h1 := Kd.R_flat (ok' := fun k => k < W.heap.size) (fun h => h) (Kd.R_bound hu) (fun k hk h => h.2.2.1)
    have := h1.1 k hk
    rw [hb] at he
    injection he with he
    omega
section
variable {ops : Array Oper} {rest : List Oper} {o : Oper} {a : Act} {Q : Exit → Act → World → Prop}
/-- append(v, y), with two rows beside. -/
theorem app1d {w0 W : World} (base : Nat) (hgd : o.guard = none) (s x : Operand) (ho : o.op = .call { callee := .builtin .append, args := #[s, x], argTypes := #[22, 22] })
    (v : Value) (xs : List Int) (y : Int) (u1 u2 : Value) (l1 l2 : List Int) (hs : a.eval s = v) (hx : a.eval x = .slice (some ⟨W.heap.size, 0, none⟩) 1 1) (HO : Own W base v xs) (H1 : Own W base u1 l1) (H2 : Own W base u2 l2) (A1 : Apart2 u1 v) (A2 : Apart2 u2 v) (HB : Below base w0 W) (hbase : base ≤ W.heap.size) (hl : xs.length < 17592186044416)
    (h : ∀ v1 w1, Own w1 base v1 (xs ++ [y]) → Own w1 base u1 l1 → Own w1 base u2 l2 → Apart2 u1 v1 → Apart2 u2 v1 → Below base w0 w1 → wpList Try.prog ops Q rest (a.put o.dst v1) w1) :
    wpList Try.prog ops Q (o :: rest) a (W.alloc (.cells #[.int .i64 y] 3)) :=
  Kd.R_append (Kd.int .i64) (w0 := w0) base hgd s x 22 3 (.int .i64 0) 8 ho Try.underlying22 info3 rfl (by decide) (by omega) v xs y [.int .i64 y] (fun _ => True) (fun _ => False) hs hx rfl (fun _ hk => hk.elim) (fun _ _ => trivial) HO HB hbase (by omega)
    fun v1 w1 ho hb hg hv => h v1 w1 ho (own_keep H1 A1 hg) (own_keep H2 A2 hg) (apart_new H1 A1 hv) (apart_new H2 A2 hv) hb
end
theorem HasR_any (Ax : Option Addr) (cx : Nat) (lx : List Int) (n : Int) (w : World) (hrx : Kd.C (Kd.int .i64) w Ax lx.length lx) (hcx : lx.length ≤ cx) (hx : lx.length ≤ 3000) :
    Calls Try.prog 32 #[.slice Ax lx.length cx, .int .i64 n] w fun e w' => e = .returned (.bool (decide (n ∈ lx))) ∧ Drawn0 w w' :=
  PAll.cabinetryref12_Has.calls 8000 Ax cx lx n _ w hrx hcx (hasR_f _ _ _ (by omega) (by omega))
def inL (k l : List Int) (n : Int) : List Int := (upTo n).filter fun x => decide (x ∈ k) && decide (x ∈ l)
def orL (k l : List Int) (n : Int) : List Int := (upTo n).filter fun x => decide (x ∈ k) || decide (x ∈ l)
def noL (k : List Int) (n : Int) : List Int := (upTo n).filter fun x => !decide (x ∈ k)
theorem upTo_succ (n : Nat) : upTo ((n + 1 : Nat) : Int) = upTo (n : Int) ++ [(n : Int) + 1] := by
  unfold upTo
  simp [List.range_succ]
theorem upTo_filter_length (n : Nat) (p : Int → Bool) : ((upTo (n : Int)).filter p).length ≤ n := by
  have := List.length_filter_le p (upTo (n : Int))
  rw [upTo_length] at this
  omega
theorem upTo_filter_succ (n : Nat) (p : Int → Bool) : (upTo ((n + 1 : Nat) : Int)).filter p = (upTo (n : Int)).filter p ++ if p ((n : Int) + 1) then [(n : Int) + 1] else [] := by
  rw [upTo_succ, List.filter_append]
  congr 1
  by_cases h : p ((n : Int) + 1) = true <;> simp [h]
theorem trueB_iff {s m l : List Int} : trueB s m l = true ↔ valE s m = 0 ∧ setB 300 l = true ∧ (∀ x ∈ s, x ∈ l) ∧ ∀ x ∈ l, x ∈ m := by
  unfold trueB trueE
  by_cases h : valE s m = 0
  · obtain ⟨a, b, _⟩ := valE_iff.1 h
    by_cases h2 : setB 300 l = true
    · rw [if_pos h, if_pos h2, if_pos rfl, lessF_filter (set_asc a) (set_asc h2), lessF_filter (set_asc h2) (set_asc b)]
      simp [h, h2, filter_mem_nil]
    · rw [if_pos h, if_neg h2, if_neg (by decide)]
      simp [h2]
  · rw [if_neg h, if_neg h]
    simp [h]
theorem filt_set (n : Int) (hn : n ≤ 300) (p : Int → Bool) : setB 300 ((upTo n).filter p) = true :=
  setB_of _ _ (filter_asc _ (upTo_asc n)) fun x hx => by have := (upTo_mem n x).1 (List.mem_filter.1 hx).1; omega
theorem true_law {x0 x1 y0 y1 k l : List Int} (hx : trueB x0 x1 k = true) (hy : trueB y0 y1 l = true) :
    trueB (bothL (fun a b => a && b) x0 x1 y0 y1 x0 y0) (bothL (fun a b => a && b) x0 x1 y0 y1 x1 y1) (inL k l 300) = true ∧
    trueB (bothL (fun a b => a || b) x0 x1 y0 y1 x0 y0) (bothL (fun a b => a || b) x0 x1 y0 y1 x1 y1) (orL k l 300) = true ∧
    trueB (notL x0 x1 300 x1) (notL x0 x1 300 x0) (noL k 300) = true := by
  obtain ⟨ex, sk, a1, a2⟩ := trueB_iff.1 hx
  obtain ⟨ey, sl, b1, b2⟩ := trueB_iff.1 hy
  obtain ⟨ax0, ax1, sub1⟩ := valE_iff.1 ex
  obtain ⟨ay0, ay1, sub2⟩ := valE_iff.1 ey
  have eN : notE x0 x1 300 = 0 := notE_iff.2 ⟨ex, by omega, ax1⟩
  obtain ⟨pp0, mp0⟩ := bothL_spec (fun a b => a && b) rfl ex ey (set_asc ax0) (set_asc ay0)
  obtain ⟨pp1, mp1⟩ := bothL_spec (fun a b => a && b) rfl ex ey (set_asc ax1) (set_asc ay1)
  obtain ⟨pq0, mq0⟩ := bothL_spec (fun a b => a || b) rfl ex ey (set_asc ax0) (set_asc ay0)
  obtain ⟨pq1, mq1⟩ := bothL_spec (fun a b => a || b) rfl ex ey (set_asc ax1) (set_asc ay1)
  obtain ⟨pn0, mn0⟩ := notL_spec eN (set_asc ax1)
  obtain ⟨pn1, mn1⟩ := notL_spec eN (set_asc ax0)
  simp only [Bool.and_eq_true, Bool.or_eq_true, decide_eq_true_eq] at mp0 mp1 mq0 mq1
  have min : ∀ z, z ∈ inL k l 300 ↔ z ∈ k ∧ z ∈ l := fun z => by
    unfold inL
    rw [List.mem_filter, upTo_mem]
    simp only [Bool.and_eq_true, decide_eq_true_eq]
    exact ⟨fun h => h.2, fun h => ⟨by have := set_mem sk z h.1; omega, h⟩⟩
  have mor : ∀ z, z ∈ orL k l 300 ↔ z ∈ k ∨ z ∈ l := fun z => by
    unfold orL
    rw [List.mem_filter, upTo_mem]
    simp only [Bool.or_eq_true, decide_eq_true_eq]
    exact ⟨fun h => h.2, fun h => ⟨h.elim (set_mem sk z) (set_mem sl z), h⟩⟩
  have mno : ∀ z, z ∈ noL k 300 ↔ (1 ≤ z ∧ z ≤ 300) ∧ z ∉ k := fun z => by
    unfold noL
    rw [List.mem_filter, upTo_mem]
    simp
  refine ⟨trueB_iff.2 ⟨valE_iff.2 ⟨setB_of _ _ pp0 fun z hz => set_mem ax0 z ((mp0 z).1 hz).1, setB_of _ _ pp1 fun z hz => set_mem ax1 z ((mp1 z).1 hz).1, fun z hz => (mp1 z).2 ⟨sub1 z ((mp0 z).1 hz).1, sub2 z ((mp0 z).1 hz).2⟩⟩, filt_set 300 (by omega) _,
      fun z hz => (min z).2 ⟨a1 z ((mp0 z).1 hz).1, b1 z ((mp0 z).1 hz).2⟩, fun z hz => (mp1 z).2 ⟨a2 z ((min z).1 hz).1, b2 z ((min z).1 hz).2⟩⟩,
    trueB_iff.2 ⟨valE_iff.2 ⟨setB_of _ _ pq0 fun z hz => ((mq0 z).1 hz).elim (set_mem ax0 z) (set_mem ay0 z), setB_of _ _ pq1 fun z hz => ((mq1 z).1 hz).elim (set_mem ax1 z) (set_mem ay1 z), fun z hz => (mq1 z).2 (((mq0 z).1 hz).imp (sub1 z) (sub2 z))⟩, filt_set 300 (by omega) _,
      fun z hz => (mor z).2 (((mq0 z).1 hz).imp (a1 z) (b1 z)), fun z hz => (mq1 z).2 (((mor z).1 hz).imp (a2 z) (b2 z))⟩,
    trueB_iff.2 ⟨valE_iff.2 ⟨setB_of _ _ pn0 fun z hz => ((mn0 z).1 hz).1, setB_of _ _ pn1 fun z hz => ((mn1 z).1 hz).1, fun z hz => (mn1 z).2 ⟨((mn0 z).1 hz).1, fun h => ((mn0 z).1 hz).2 (sub1 z h)⟩⟩, filt_set 300 (by omega) _,
      fun z hz => (mno z).2 ⟨((mn0 z).1 hz).1, fun h => ((mn0 z).1 hz).2 (a2 z h)⟩, fun z hz => (mn1 z).2 ⟨((mno z).1 hz).1, fun h => ((mno z).1 hz).2 (a1 z h)⟩⟩⟩
end Go.Proofs.Ytpbdlkbiiglkdaa

/- The law BitsTrue, walked. -/
set_option linter.unusedVariables false
set_option linter.unusedSimpArgs false
namespace Go.Proofs.Ytpbdlkbiiglkdaa
open Go.RowKit Go.Proofs.YtpbdlkbiiglkdaaW.PrintWords Go.Proofs.YtpbdlkbiiglkdaaW.PrintLast Go.Proofs.YtpbdlkbiiglkdaaW.PrintMore Go.Proofs.Cab
set_option maxHeartbeats 4000000 in
set_option maxRecDepth 100000 in
theorem BitsTrue_any (Ax0 : Option Addr) (cx0 : Nat) (lx0 : List Int) (Ax1 : Option Addr) (cx1 : Nat) (lx1 : List Int) (Ay0 : Option Addr) (cy0 : Nat) (ly0 : List Int) (Ay1 : Option Addr) (cy1 : Nat) (ly1 : List Int) (Ak : Option Addr) (ck : Nat) (lk : List Int) (Al : Option Addr) (cl : Nat) (ll : List Int) (w : World) (hrx0 : Kd.C (Kd.int .i64) w Ax0 lx0.length lx0) (hcx0 : lx0.length ≤ cx0) (hrx1 : Kd.C (Kd.int .i64) w Ax1 lx1.length lx1) (hcx1 : lx1.length ≤ cx1) (hry0 : Kd.C (Kd.int .i64) w Ay0 ly0.length ly0) (hcy0 : ly0.length ≤ cy0) (hry1 : Kd.C (Kd.int .i64) w Ay1 ly1.length ly1) (hcy1 : ly1.length ≤ cy1) (hrk : Kd.C (Kd.int .i64) w Ak lk.length lk) (hck : lk.length ≤ ck) (hrl : Kd.C (Kd.int .i64) w Al ll.length ll) (hcl : ll.length ≤ cl) :
    Calls Try.prog 8 #[.agg #[.slice Ax0 lx0.length cx0, .slice Ax1 lx1.length cx1, .slice Ay0 ly0.length cy0, .slice Ay1 ly1.length cy1], .slice Ak lk.length ck, .slice Al ll.length cl] w fun e w' => e = .returned (.bool true) ∧ Below w.heap.size w w' := by
  have HRx0 := Aside0.mk hrx0
  have HCx0 := Aside0.mk hcx0
  have HRx1 := Aside0.mk hrx1
  have HCx1 := Aside0.mk hcx1
  have HRy0 := Aside0.mk hry0
  have HCy0 := Aside0.mk hcy0
  have HRy1 := Aside0.mk hry1
  have HCy1 := Aside0.mk hcy1
  have HRk := Aside0.mk hrk
  have HCk := Aside0.mk hck
  have HRl := Aside0.mk hrl
  have HCl := Aside0.mk hcl
  clear hrx0 hcx0 hrx1 hcx1 hry0 hcy0 hry1 hcy1 hrk hck hrl hcl
  have hu22 := Try.underlying22
  have hu29 := Try.underlying29
  have hu44 := Try.underlying44
  have HB := Aside0.mk (Below.refl w.heap.size w)
  go_enter Try.func8, Try.ntmps8
  go_wp2_with fail
  go_region
  ·
    obtain ⟨w1, hW⟩ : ∃ z, (((w.alloc (.cells #[.slice Ax0 lx0.length cx0, .slice Ax1 lx1.length cx1, .slice Ay0 ly0.length cy0, .slice Ay1 ly1.length cy1] 44)).alloc (.cells #[.slice Ax0 lx0.length cx0, .slice Ax1 lx1.length cx1] 29)).alloc (.cells #[.slice Ay0 ly0.length cy0, .slice Ay1 ly1.length cy1] 29)).drew = z := ⟨_, rfl⟩
    have hb : Below w.heap.size w w1 := by rw [← hW]; exact below_drew1 (below_alloc (below_alloc (below_alloc (Below.refl _ _) _) _) _)
    replace HB := Aside0.mk (below_step HB.out hb)
    replace HRx0 := Aside0.mk (Kd.C_below HRx0.out hb)
    replace HRx1 := Aside0.mk (Kd.C_below HRx1.out hb)
    replace HRy0 := Aside0.mk (Kd.C_below HRy0.out hb)
    replace HRy1 := Aside0.mk (Kd.C_below HRy1.out hb)
    replace HRk := Aside0.mk (Kd.C_below HRk.out hb)
    replace HRl := Aside0.mk (Kd.C_below HRl.out hb)
    clear hb
    have KA : Aside0 (Held w1 (w.heap.size + 1) (.slice Ax0 lx0.length cx0) (.slice Ax1 lx1.length cx1)) := ⟨by rw [← hW]; exact ((Held.new _ _ _).at_ (alloc_size _ _)).alloc _⟩
    have KB : Aside0 (Held w1 (w.heap.size + 1 + 1) (.slice Ay0 ly0.length cy0) (.slice Ay1 ly1.length cy1)) := ⟨by rw [← hW]; exact (Held.new _ _ _).at_ (by rw [alloc_size, alloc_size])⟩
    rw [hW]
    clear hW
    have hA0 := KA.out.c0
    have hA1 := KA.out.c1
    go_wp2_with fail
    clear hA0 hA1
    refine (over_any Ax0 cx0 lx0 Ax1 cx1 lx1 _ HRx0.out HCx0.out HRx1.out HCx1.out).mono ?_
    rintro e w2 ⟨rfl, hb⟩
    replace HB := Aside0.mk (below_step HB.out hb)
    replace HRx0 := Aside0.mk (Kd.C_below HRx0.out hb)
    replace HRx1 := Aside0.mk (Kd.C_below HRx1.out hb)
    replace HRy0 := Aside0.mk (Kd.C_below HRy0.out hb)
    replace HRy1 := Aside0.mk (Kd.C_below HRy1.out hb)
    replace HRk := Aside0.mk (Kd.C_below HRk.out hb)
    replace HRl := Aside0.mk (Kd.C_below HRl.out hb)
    replace KA := Aside0.mk (KA.out.below hb)
    replace KB := Aside0.mk (KB.out.below hb)
    clear hb
    cases hovx : overB lx0 lx1
    · have ovx := overB_false hovx
      have hB0 := KB.out.c0
      have hB1 := KB.out.c1
      go_wp2_with fail
      clear hB0 hB1
      refine (over_any Ay0 cy0 ly0 Ay1 cy1 ly1 _ HRy0.out HCy0.out HRy1.out HCy1.out).mono ?_
      rintro e w3 ⟨rfl, hb⟩
      replace HB := Aside0.mk (below_step HB.out hb)
      replace HRx0 := Aside0.mk (Kd.C_below HRx0.out hb)
      replace HRx1 := Aside0.mk (Kd.C_below HRx1.out hb)
      replace HRy0 := Aside0.mk (Kd.C_below HRy0.out hb)
      replace HRy1 := Aside0.mk (Kd.C_below HRy1.out hb)
      replace HRk := Aside0.mk (Kd.C_below HRk.out hb)
      replace HRl := Aside0.mk (Kd.C_below HRl.out hb)
      replace KA := Aside0.mk (KA.out.below hb)
      replace KB := Aside0.mk (KB.out.below hb)
      clear hb
      cases hovy : overB ly0 ly1
      · have ovy := overB_false hovy
        by_cases hk : (lk.length : Int) > 3000
        · have hkb := decide_eq_true hk
          go_wp2_with fail
          refine (known_any _).mono ?_
          rintro e w4 ⟨rfl, hb⟩
          replace HB := Aside0.mk (below_step HB.out hb)
          replace HRx0 := Aside0.mk (Kd.C_below HRx0.out hb)
          replace HRx1 := Aside0.mk (Kd.C_below HRx1.out hb)
          replace HRy0 := Aside0.mk (Kd.C_below HRy0.out hb)
          replace HRy1 := Aside0.mk (Kd.C_below HRy1.out hb)
          replace HRk := Aside0.mk (Kd.C_below HRk.out hb)
          replace HRl := Aside0.mk (Kd.C_below HRl.out hb)
          replace KA := Aside0.mk (KA.out.below hb)
          replace KB := Aside0.mk (KB.out.below hb)
          clear hb
          go_wp2_with fail
          go_ret
          exact ⟨rfl, HB.out⟩
        · have hkb := decide_eq_false hk
          by_cases hl : (ll.length : Int) > 3000
          · have hlb := decide_eq_true hl
            go_wp2_with fail
            refine (known_any _).mono ?_
            rintro e w4 ⟨rfl, hb⟩
            replace HB := Aside0.mk (below_step HB.out hb)
            replace HRx0 := Aside0.mk (Kd.C_below HRx0.out hb)
            replace HRx1 := Aside0.mk (Kd.C_below HRx1.out hb)
            replace HRy0 := Aside0.mk (Kd.C_below HRy0.out hb)
            replace HRy1 := Aside0.mk (Kd.C_below HRy1.out hb)
            replace HRk := Aside0.mk (Kd.C_below HRk.out hb)
            replace HRl := Aside0.mk (Kd.C_below HRl.out hb)
            replace KA := Aside0.mk (KA.out.below hb)
            replace KB := Aside0.mk (KB.out.below hb)
            clear hb
            go_wp2_with fail
            go_ret
            exact ⟨rfl, HB.out⟩
          · have hlb := decide_eq_false hl
            have hk3 : lk.length ≤ 3000 := by omega
            have hl3 : ll.length ≤ 3000 := by omega
            have hA0 := KA.out.c0
            have hA1 := KA.out.c1
            go_wp2_with fail
            clear hA0 hA1
            refine (True_any Ax0 cx0 lx0 Ax1 cx1 lx1 Ak ck lk _ HRx0.out HCx0.out HRx1.out HCx1.out HRk.out HCk.out).mono ?_
            rintro e w4 ⟨rfl, hb⟩
            replace HB := Aside0.mk (below_step HB.out hb)
            replace HRx0 := Aside0.mk (Kd.C_below HRx0.out hb)
            replace HRx1 := Aside0.mk (Kd.C_below HRx1.out hb)
            replace HRy0 := Aside0.mk (Kd.C_below HRy0.out hb)
            replace HRy1 := Aside0.mk (Kd.C_below HRy1.out hb)
            replace HRk := Aside0.mk (Kd.C_below HRk.out hb)
            replace HRl := Aside0.mk (Kd.C_below HRl.out hb)
            replace KA := Aside0.mk (KA.out.below hb)
            replace KB := Aside0.mk (KB.out.below hb)
            clear hb
            generalize hb1 : trueB lx0 lx1 lk = b1
            generalize he1 : trueE lx0 lx1 lk = e1
            have HB1 := Aside0.mk hb1
            have HE1 := Aside0.mk he1
            clear hb1 he1
            have hA0 := KA.out.c0
            have hA1 := KA.out.c1
            go_wp2_with fail
            clear hA0 hA1
            refine (TrueR_any Ax0 cx0 lx0 Ax1 cx1 lx1 Ak ck lk _ HRx0.out HCx0.out HRx1.out HCx1.out HRk.out HCk.out ovx.1 ovx.2 hk3).mono ?_
            rintro e w5 ⟨rfl, hb⟩
            replace HB := Aside0.mk (below_step HB.out hb)
            replace HRx0 := Aside0.mk (Kd.C_below HRx0.out hb)
            replace HRx1 := Aside0.mk (Kd.C_below HRx1.out hb)
            replace HRy0 := Aside0.mk (Kd.C_below HRy0.out hb)
            replace HRy1 := Aside0.mk (Kd.C_below HRy1.out hb)
            replace HRk := Aside0.mk (Kd.C_below HRk.out hb)
            replace HRl := Aside0.mk (Kd.C_below HRl.out hb)
            replace KA := Aside0.mk (KA.out.below hb)
            replace KB := Aside0.mk (KB.out.below hb)
            clear hb
            rw [HB1.out, HE1.out]
            have hB0 := KB.out.c0
            have hB1 := KB.out.c1
            go_wp2_with fail
            clear hB0 hB1
            refine (True_any Ay0 cy0 ly0 Ay1 cy1 ly1 Al cl ll _ HRy0.out HCy0.out HRy1.out HCy1.out HRl.out HCl.out).mono ?_
            rintro e w6 ⟨rfl, hb⟩
            replace HB := Aside0.mk (below_step HB.out hb)
            replace HRx0 := Aside0.mk (Kd.C_below HRx0.out hb)
            replace HRx1 := Aside0.mk (Kd.C_below HRx1.out hb)
            replace HRy0 := Aside0.mk (Kd.C_below HRy0.out hb)
            replace HRy1 := Aside0.mk (Kd.C_below HRy1.out hb)
            replace HRk := Aside0.mk (Kd.C_below HRk.out hb)
            replace HRl := Aside0.mk (Kd.C_below HRl.out hb)
            replace KA := Aside0.mk (KA.out.below hb)
            replace KB := Aside0.mk (KB.out.below hb)
            clear hb
            generalize hb2 : trueB ly0 ly1 ll = b2
            generalize he2 : trueE ly0 ly1 ll = e2
            have HB2 := Aside0.mk hb2
            have HE2 := Aside0.mk he2
            clear hb2 he2
            by_cases h1 : e1 = 0
            · subst h1
              by_cases h2 : e2 = 0
              · subst h2
                cases b1
                ·
                  go_wp2_with fail
                  refine (known_any _).mono ?_
                  rintro e w7 ⟨rfl, hb⟩
                  replace HB := Aside0.mk (below_step HB.out hb)
                  replace HRx0 := Aside0.mk (Kd.C_below HRx0.out hb)
                  replace HRx1 := Aside0.mk (Kd.C_below HRx1.out hb)
                  replace HRy0 := Aside0.mk (Kd.C_below HRy0.out hb)
                  replace HRy1 := Aside0.mk (Kd.C_below HRy1.out hb)
                  replace HRk := Aside0.mk (Kd.C_below HRk.out hb)
                  replace HRl := Aside0.mk (Kd.C_below HRl.out hb)
                  replace KA := Aside0.mk (KA.out.below hb)
                  replace KB := Aside0.mk (KB.out.below hb)
                  clear hb
                  go_wp2_with fail
                  go_ret
                  exact ⟨rfl, HB.out⟩
                ·
                  cases b2
                  ·
                    go_wp2_with fail
                    refine (known_any _).mono ?_
                    rintro e w7 ⟨rfl, hb⟩
                    replace HB := Aside0.mk (below_step HB.out hb)
                    replace HRx0 := Aside0.mk (Kd.C_below HRx0.out hb)
                    replace HRx1 := Aside0.mk (Kd.C_below HRx1.out hb)
                    replace HRy0 := Aside0.mk (Kd.C_below HRy0.out hb)
                    replace HRy1 := Aside0.mk (Kd.C_below HRy1.out hb)
                    replace HRk := Aside0.mk (Kd.C_below HRk.out hb)
                    replace HRl := Aside0.mk (Kd.C_below HRl.out hb)
                    replace KA := Aside0.mk (KA.out.below hb)
                    replace KB := Aside0.mk (KB.out.below hb)
                    clear hb
                    go_wp2_with fail
                    go_ret
                    exact ⟨rfl, HB.out⟩
                  ·
                    go_wp2_with fail
                    go_loopw [15, 16, 17, 18] (fun v15 v16 v17 v18 wr => ∃ n : Nat, v18 = .int .i64 ((n : Int) + 1) ∧ n ≤ 300 ∧ Aside0 (Own wr w6.heap.size v15 (inL lk ll n)) ∧ Aside0 (Own wr w6.heap.size v16 (orL lk ll n)) ∧ Aside0 (Own wr w6.heap.size v17 (noL lk n)) ∧ Aside0 (Apart2 v15 v16) ∧ Aside0 (Apart2 v15 v17) ∧ Aside0 (Apart2 v16 v17) ∧ Aside0 (Below w6.heap.size w6 wr)) (fun v15 v16 v17 v18 wr => (301 - intOf v18).toNat)
                    case atStart => exact ⟨0, rfl, by omega, ⟨Own.nil _ _⟩, ⟨Own.nil _ _⟩, ⟨Own.nil _ _⟩, ⟨Apart2.nil _⟩, ⟨Apart2.nil _⟩, ⟨Apart2.nil _⟩, ⟨Below.refl _ _⟩⟩
                    case round =>
                      obtain ⟨n, rfl, hn, H15, H16, H17, P1, P2, P3, HBr⟩ := hrel
                      by_cases hlt : n < 300
                      ·
                        go_wp2_with fail
                        refine (HasR_any Ak ck lk _ _ (Kd.C_below HRk.out HBr.out) HCk.out hk3).mono ?_
                        rintro e w' ⟨rfl, na, rfl⟩
                        generalize hd1 : decide ((n : Int) + 1 ∈ lk) = d1
                        have HD1 := Aside0.mk hd1
                        clear hd1
                        go_wp2_with fail
                        refine (HasR_any Al cl ll _ _ (Kd.C_below HRl.out (pw_below_drewN HBr.out _)) HCl.out hl3).mono ?_
                        rintro e w' ⟨rfl, nb, rfl⟩
                        generalize hd2 : decide ((n : Int) + 1 ∈ ll) = d2
                        have HD2 := Aside0.mk hd2
                        clear hd2
                        have HL15 : Aside0 ((inL lk ll n).length ≤ 300) := ⟨Nat.le_trans (upTo_filter_length n _) hn⟩
                        have HL16 : Aside0 ((orL lk ll n).length ≤ 300) := ⟨Nat.le_trans (upTo_filter_length n _) hn⟩
                        have HL17 : Aside0 ((noL lk n).length ≤ 300) := ⟨Nat.le_trans (upTo_filter_length n _) hn⟩
                        have HW : Aside0 (Below w6.heap.size w6 ((wr.drewN na).drewN nb)) := ⟨pw_below_drewN (pw_below_drewN HBr.out _) _⟩
                        have G15 : Aside0 (Own ((wr.drewN na).drewN nb) w6.heap.size u15 (inL lk ll n)) := ⟨H15.out⟩
                        have G16 : Aside0 (Own ((wr.drewN na).drewN nb) w6.heap.size u16 (orL lk ll n)) := ⟨H16.out⟩
                        have G17 : Aside0 (Own ((wr.drewN na).drewN nb) w6.heap.size u17 (noL lk n)) := ⟨H17.out⟩
                        have I15 : Aside0 (inL lk ll ((n + 1 : Nat) : Int) = inL lk ll n ++ if (d1 && d2) = true then [(n : Int) + 1] else []) := ⟨by rw [← HD1.out, ← HD2.out]; exact upTo_filter_succ n _⟩
                        have I16 : Aside0 (orL lk ll ((n + 1 : Nat) : Int) = orL lk ll n ++ if (d1 || d2) = true then [(n : Int) + 1] else []) := ⟨by rw [← HD1.out, ← HD2.out]; exact upTo_filter_succ n _⟩
                        have I17 : Aside0 (noL lk ((n + 1 : Nat) : Int) = noL lk n ++ if (!d1) = true then [(n : Int) + 1] else []) := ⟨by rw [← HD1.out]; exact upTo_filter_succ n _⟩
                        generalize (wr.drewN na).drewN nb = wq at *
                        cases d1 <;> cases d2
                        ·
                          go_wp2_with (first
                            | (at_builtin; refine app1d (w0 := w6) (W := wq) w6.heap.size (by rfl) _ _ (by rfl) u17 (noL lk n) ((n : Int) + 1) u15 u16 (inL lk ll n) (orL lk ll n) (by rfl) (by rfl) G17.out G15.out G16.out (P2.out) (P3.out) HW.out HW.out.size (by have := HL17.out; omega) ?_; intro vv170 wz0 ho1 ho2 ho3 ap1 ap2 hb; have N17_0 := Aside0.mk ho1; have N15_0 := Aside0.mk ho2; have N16_0 := Aside0.mk ho3; have Q0_1 := Aside0.mk ap1; have Q0_2 := Aside0.mk ap2; have HB0_ := Aside0.mk hb; clear ho1 ho2 ho3 ap1 ap2 hb))
                          go_roundw
                          case rel => exact ⟨n + 1, by go_num, by omega, ⟨by rw [I15.out]; simpa using N15_0.out⟩, ⟨by rw [I16.out]; simpa using N16_0.out⟩, ⟨by rw [I17.out]; simpa using N17_0.out⟩, ⟨P1.out⟩, ⟨Q0_1.out⟩, ⟨Q0_2.out⟩, HB0_⟩
                          case measure => simp [intOf]; omega
                        ·
                          go_wp2_with (first
                            | (at_builtin; refine app1d (w0 := w6) (W := wq) w6.heap.size (by rfl) _ _ (by rfl) u16 (orL lk ll n) ((n : Int) + 1) u15 u17 (inL lk ll n) (noL lk n) (by rfl) (by rfl) G16.out G15.out G17.out (P1.out) (P3.out.symm) HW.out HW.out.size (by have := HL16.out; omega) ?_; intro vv160 wz0 ho1 ho2 ho3 ap1 ap2 hb; have N16_0 := Aside0.mk ho1; have N15_0 := Aside0.mk ho2; have N17_0 := Aside0.mk ho3; have Q0_1 := Aside0.mk ap1; have Q0_2 := Aside0.mk ap2; have HB0_ := Aside0.mk hb; clear ho1 ho2 ho3 ap1 ap2 hb)
                            | (at_builtin; refine app1d (w0 := w6) (W := wz0) w6.heap.size (by rfl) _ _ (by rfl) u17 (noL lk n) ((n : Int) + 1) u15 vv160 (inL lk ll n) ((orL lk ll n) ++ [(n : Int) + 1]) (by rfl) (by rfl) N17_0.out N15_0.out N16_0.out (P2.out) (Q0_2.out.symm) HB0_.out HB0_.out.size (by have := HL17.out; omega) ?_; intro vv171 wz1 ho1 ho2 ho3 ap1 ap2 hb; have N17_1 := Aside0.mk ho1; have N15_1 := Aside0.mk ho2; have N16_1 := Aside0.mk ho3; have Q1_1 := Aside0.mk ap1; have Q1_2 := Aside0.mk ap2; have HB1_ := Aside0.mk hb; clear ho1 ho2 ho3 ap1 ap2 hb))
                          go_roundw
                          case rel => exact ⟨n + 1, by go_num, by omega, ⟨by rw [I15.out]; simpa using N15_1.out⟩, ⟨by rw [I16.out]; simpa using N16_1.out⟩, ⟨by rw [I17.out]; simpa using N17_1.out⟩, ⟨Q0_1.out⟩, ⟨Q1_1.out⟩, ⟨Q1_2.out⟩, HB1_⟩
                          case measure => simp [intOf]; omega
                        ·
                          go_wp2_with (first
                            | (at_builtin; refine app1d (w0 := w6) (W := wq) w6.heap.size (by rfl) _ _ (by rfl) u16 (orL lk ll n) ((n : Int) + 1) u15 u17 (inL lk ll n) (noL lk n) (by rfl) (by rfl) G16.out G15.out G17.out (P1.out) (P3.out.symm) HW.out HW.out.size (by have := HL16.out; omega) ?_; intro vv160 wz0 ho1 ho2 ho3 ap1 ap2 hb; have N16_0 := Aside0.mk ho1; have N15_0 := Aside0.mk ho2; have N17_0 := Aside0.mk ho3; have Q0_1 := Aside0.mk ap1; have Q0_2 := Aside0.mk ap2; have HB0_ := Aside0.mk hb; clear ho1 ho2 ho3 ap1 ap2 hb))
                          go_roundw
                          case rel => exact ⟨n + 1, by go_num, by omega, ⟨by rw [I15.out]; simpa using N15_0.out⟩, ⟨by rw [I16.out]; simpa using N16_0.out⟩, ⟨by rw [I17.out]; simpa using N17_0.out⟩, ⟨Q0_1.out⟩, ⟨P2.out⟩, ⟨Q0_2.out.symm⟩, HB0_⟩
                          case measure => simp [intOf]; omega
                        ·
                          go_wp2_with (first
                            | (at_builtin; refine app1d (w0 := w6) (W := wq) w6.heap.size (by rfl) _ _ (by rfl) u15 (inL lk ll n) ((n : Int) + 1) u16 u17 (orL lk ll n) (noL lk n) (by rfl) (by rfl) G15.out G16.out G17.out (P1.out.symm) (P2.out.symm) HW.out HW.out.size (by have := HL15.out; omega) ?_; intro vv150 wz0 ho1 ho2 ho3 ap1 ap2 hb; have N15_0 := Aside0.mk ho1; have N16_0 := Aside0.mk ho2; have N17_0 := Aside0.mk ho3; have Q0_1 := Aside0.mk ap1; have Q0_2 := Aside0.mk ap2; have HB0_ := Aside0.mk hb; clear ho1 ho2 ho3 ap1 ap2 hb)
                            | (at_builtin; refine app1d (w0 := w6) (W := wz0) w6.heap.size (by rfl) _ _ (by rfl) u16 (orL lk ll n) ((n : Int) + 1) vv150 u17 ((inL lk ll n) ++ [(n : Int) + 1]) (noL lk n) (by rfl) (by rfl) N16_0.out N15_0.out N17_0.out (Q0_1.out.symm) (P3.out.symm) HB0_.out HB0_.out.size (by have := HL16.out; omega) ?_; intro vv161 wz1 ho1 ho2 ho3 ap1 ap2 hb; have N16_1 := Aside0.mk ho1; have N15_1 := Aside0.mk ho2; have N17_1 := Aside0.mk ho3; have Q1_1 := Aside0.mk ap1; have Q1_2 := Aside0.mk ap2; have HB1_ := Aside0.mk hb; clear ho1 ho2 ho3 ap1 ap2 hb))
                          go_roundw
                          case rel => exact ⟨n + 1, by go_num, by omega, ⟨by rw [I15.out]; simpa using N15_1.out⟩, ⟨by rw [I16.out]; simpa using N16_1.out⟩, ⟨by rw [I17.out]; simpa using N17_1.out⟩, ⟨Q1_1.out⟩, ⟨Q0_2.out.symm⟩, ⟨Q1_2.out.symm⟩, HB1_⟩
                          case measure => simp [intOf]; omega
                      · obtain rfl : n = 300 := by omega
                        replace HB := Aside0.mk (below_step HB.out HBr.out)
                        replace HRx0 := Aside0.mk (Kd.C_below HRx0.out HBr.out)
                        replace HRx1 := Aside0.mk (Kd.C_below HRx1.out HBr.out)
                        replace HRy0 := Aside0.mk (Kd.C_below HRy0.out HBr.out)
                        replace HRy1 := Aside0.mk (Kd.C_below HRy1.out HBr.out)
                        replace HRk := Aside0.mk (Kd.C_below HRk.out HBr.out)
                        replace HRl := Aside0.mk (Kd.C_below HRl.out HBr.out)
                        replace KA := Aside0.mk (KA.out.below HBr.out)
                        replace KB := Aside0.mk (KB.out.below HBr.out)
                        have ho := H15.out
                        obtain ⟨Li, hLi⟩ : ∃ L, inL lk ll ((300 : Nat) : Int) = L := ⟨_, rfl⟩
                        rw [hLi] at ho
                        obtain ⟨Ai, ci, rfl, hci, hri⟩ := ho.slice
                        have HRi := Aside0.mk hri
                        have HCi := Aside0.mk hci
                        have HLi := Aside0.mk hLi
                        clear ho hri hci hLi
                        have ho := H16.out
                        obtain ⟨Lo, hLo⟩ : ∃ L, orL lk ll ((300 : Nat) : Int) = L := ⟨_, rfl⟩
                        rw [hLo] at ho
                        obtain ⟨Ao, co, rfl, hco, hro⟩ := ho.slice
                        have HRo := Aside0.mk hro
                        have HCo := Aside0.mk hco
                        have HLo := Aside0.mk hLo
                        clear ho hro hco hLo
                        have ho := H17.out
                        obtain ⟨Ln, hLn⟩ : ∃ L, noL lk ((300 : Nat) : Int) = L := ⟨_, rfl⟩
                        rw [hLn] at ho
                        obtain ⟨An, cn, rfl, hcn, hrn⟩ := ho.slice
                        have HRn := Aside0.mk hrn
                        have HCn := Aside0.mk hcn
                        have HLn := Aside0.mk hLn
                        clear ho hrn hcn hLn
                        clear H15 H16 H17 P1 P2 P3 HBr
                        have hA0 := KA.out.c0
                        have hA1 := KA.out.c1
                        have hB0 := KB.out.c0
                        have hB1 := KB.out.c1
                        go_wp2_with fail
                        clear hA0 hA1 hB0 hB1
                        refine (And_any Ax0 cx0 lx0 Ax1 cx1 lx1 Ay0 cy0 ly0 Ay1 cy1 ly1 _ HRx0.out HCx0.out HRx1.out HCx1.out HRy0.out HCy0.out HRy1.out HCy1.out).mono ?_
                        rintro e w7 ⟨v0, v1, rfl, ho0, ho1, hb⟩
                        replace HB := Aside0.mk (below_step HB.out hb)
                        replace HRx0 := Aside0.mk (Kd.C_below HRx0.out hb)
                        replace HRx1 := Aside0.mk (Kd.C_below HRx1.out hb)
                        replace HRy0 := Aside0.mk (Kd.C_below HRy0.out hb)
                        replace HRy1 := Aside0.mk (Kd.C_below HRy1.out hb)
                        replace HRk := Aside0.mk (Kd.C_below HRk.out hb)
                        replace HRl := Aside0.mk (Kd.C_below HRl.out hb)
                        replace HRi := Aside0.mk (Kd.C_below HRi.out hb)
                        replace HRo := Aside0.mk (Kd.C_below HRo.out hb)
                        replace HRn := Aside0.mk (Kd.C_below HRn.out hb)
                        replace KA := Aside0.mk (KA.out.below hb)
                        replace KB := Aside0.mk (KB.out.below hb)
                        clear hb
                        obtain ⟨Lp0, hLp0⟩ : ∃ L, bothL (fun a b => a && b) lx0 lx1 ly0 ly1 lx0 ly0 = L := ⟨_, rfl⟩
                        rw [hLp0] at ho0
                        obtain ⟨Ap0, cp0, rfl, hcp0, hrp0⟩ := ho0.slice
                        have HRp0 := Aside0.mk hrp0
                        have HCp0 := Aside0.mk hcp0
                        clear ho0 hrp0 hcp0
                        obtain ⟨Lp1, hLp1⟩ : ∃ L, bothL (fun a b => a && b) lx0 lx1 ly0 ly1 lx1 ly1 = L := ⟨_, rfl⟩
                        rw [hLp1] at ho1
                        obtain ⟨Ap1, cp1, rfl, hcp1, hrp1⟩ := ho1.slice
                        have HRp1 := Aside0.mk hrp1
                        have HCp1 := Aside0.mk hcp1
                        clear ho1 hrp1 hcp1
                        have HLp0 := Aside0.mk hLp0
                        clear hLp0
                        have HLp1 := Aside0.mk hLp1
                        clear hLp1
                        obtain ⟨w8, hW8⟩ : ∃ x, w7.alloc (.cells #[.slice Ap0 Lp0.length cp0, .slice Ap1 Lp1.length cp1] 29) = x := ⟨_, rfl⟩
                        have hb : Below w7.heap.size w7 w8 := by rw [← hW8]; exact below_alloc (Below.refl _ _) _
                        replace HB := Aside0.mk (below_step HB.out hb)
                        replace HRx0 := Aside0.mk (Kd.C_below HRx0.out hb)
                        replace HRx1 := Aside0.mk (Kd.C_below HRx1.out hb)
                        replace HRy0 := Aside0.mk (Kd.C_below HRy0.out hb)
                        replace HRy1 := Aside0.mk (Kd.C_below HRy1.out hb)
                        replace HRk := Aside0.mk (Kd.C_below HRk.out hb)
                        replace HRl := Aside0.mk (Kd.C_below HRl.out hb)
                        replace HRi := Aside0.mk (Kd.C_below HRi.out hb)
                        replace HRo := Aside0.mk (Kd.C_below HRo.out hb)
                        replace HRn := Aside0.mk (Kd.C_below HRn.out hb)
                        replace HRp0 := Aside0.mk (Kd.C_below HRp0.out hb)
                        replace HRp1 := Aside0.mk (Kd.C_below HRp1.out hb)
                        replace KA := Aside0.mk (KA.out.below hb)
                        replace KB := Aside0.mk (KB.out.below hb)
                        clear hb
                        have KP : Aside0 (Held w8 (w7.heap.size) (.slice Ap0 Lp0.length cp0) (.slice Ap1 Lp1.length cp1)) := ⟨by rw [← hW8]; exact Held.new _ _ _⟩
                        have hA0 := KA.out.c0
                        rw [← hW8] at hA0
                        have hA1 := KA.out.c1
                        rw [← hW8] at hA1
                        have hB0 := KB.out.c0
                        rw [← hW8] at hB0
                        have hB1 := KB.out.c1
                        rw [← hW8] at hB1
                        have AhW8 := Aside0.mk hW8
                        clear hW8
                        go_wp2_with fail
                        clear hA0 hA1 hB0 hB1
                        rw [AhW8.out]
                        clear AhW8
                        refine (Or_any Ax0 cx0 lx0 Ax1 cx1 lx1 Ay0 cy0 ly0 Ay1 cy1 ly1 _ HRx0.out HCx0.out HRx1.out HCx1.out HRy0.out HCy0.out HRy1.out HCy1.out).mono ?_
                        rintro e w9 ⟨v0, v1, rfl, ho0, ho1, hb⟩
                        replace HB := Aside0.mk (below_step HB.out hb)
                        replace HRx0 := Aside0.mk (Kd.C_below HRx0.out hb)
                        replace HRx1 := Aside0.mk (Kd.C_below HRx1.out hb)
                        replace HRy0 := Aside0.mk (Kd.C_below HRy0.out hb)
                        replace HRy1 := Aside0.mk (Kd.C_below HRy1.out hb)
                        replace HRk := Aside0.mk (Kd.C_below HRk.out hb)
                        replace HRl := Aside0.mk (Kd.C_below HRl.out hb)
                        replace HRi := Aside0.mk (Kd.C_below HRi.out hb)
                        replace HRo := Aside0.mk (Kd.C_below HRo.out hb)
                        replace HRn := Aside0.mk (Kd.C_below HRn.out hb)
                        replace HRp0 := Aside0.mk (Kd.C_below HRp0.out hb)
                        replace HRp1 := Aside0.mk (Kd.C_below HRp1.out hb)
                        replace KA := Aside0.mk (KA.out.below hb)
                        replace KB := Aside0.mk (KB.out.below hb)
                        replace KP := Aside0.mk (KP.out.below hb)
                        clear hb
                        obtain ⟨Lq0, hLq0⟩ : ∃ L, bothL (fun a b => a || b) lx0 lx1 ly0 ly1 lx0 ly0 = L := ⟨_, rfl⟩
                        rw [hLq0] at ho0
                        obtain ⟨Aq0, cq0, rfl, hcq0, hrq0⟩ := ho0.slice
                        have HRq0 := Aside0.mk hrq0
                        have HCq0 := Aside0.mk hcq0
                        clear ho0 hrq0 hcq0
                        obtain ⟨Lq1, hLq1⟩ : ∃ L, bothL (fun a b => a || b) lx0 lx1 ly0 ly1 lx1 ly1 = L := ⟨_, rfl⟩
                        rw [hLq1] at ho1
                        obtain ⟨Aq1, cq1, rfl, hcq1, hrq1⟩ := ho1.slice
                        have HRq1 := Aside0.mk hrq1
                        have HCq1 := Aside0.mk hcq1
                        clear ho1 hrq1 hcq1
                        have HLq0 := Aside0.mk hLq0
                        clear hLq0
                        have HLq1 := Aside0.mk hLq1
                        clear hLq1
                        obtain ⟨w10, hW10⟩ : ∃ x, w9.alloc (.cells #[.slice Aq0 Lq0.length cq0, .slice Aq1 Lq1.length cq1] 29) = x := ⟨_, rfl⟩
                        have hb : Below w9.heap.size w9 w10 := by rw [← hW10]; exact below_alloc (Below.refl _ _) _
                        replace HB := Aside0.mk (below_step HB.out hb)
                        replace HRx0 := Aside0.mk (Kd.C_below HRx0.out hb)
                        replace HRx1 := Aside0.mk (Kd.C_below HRx1.out hb)
                        replace HRy0 := Aside0.mk (Kd.C_below HRy0.out hb)
                        replace HRy1 := Aside0.mk (Kd.C_below HRy1.out hb)
                        replace HRk := Aside0.mk (Kd.C_below HRk.out hb)
                        replace HRl := Aside0.mk (Kd.C_below HRl.out hb)
                        replace HRi := Aside0.mk (Kd.C_below HRi.out hb)
                        replace HRo := Aside0.mk (Kd.C_below HRo.out hb)
                        replace HRn := Aside0.mk (Kd.C_below HRn.out hb)
                        replace HRp0 := Aside0.mk (Kd.C_below HRp0.out hb)
                        replace HRp1 := Aside0.mk (Kd.C_below HRp1.out hb)
                        replace HRq0 := Aside0.mk (Kd.C_below HRq0.out hb)
                        replace HRq1 := Aside0.mk (Kd.C_below HRq1.out hb)
                        replace KA := Aside0.mk (KA.out.below hb)
                        replace KB := Aside0.mk (KB.out.below hb)
                        replace KP := Aside0.mk (KP.out.below hb)
                        clear hb
                        have KQ : Aside0 (Held w10 (w9.heap.size) (.slice Aq0 Lq0.length cq0) (.slice Aq1 Lq1.length cq1)) := ⟨by rw [← hW10]; exact Held.new _ _ _⟩
                        have hA0 := KA.out.c0
                        rw [← hW10] at hA0
                        have hA1 := KA.out.c1
                        rw [← hW10] at hA1
                        have AhW10 := Aside0.mk hW10
                        clear hW10
                        go_wp2_with fail
                        clear hA0 hA1
                        rw [AhW10.out]
                        clear AhW10
                        refine (Not_any Ax0 cx0 lx0 Ax1 cx1 lx1 300 _ HRx0.out HCx0.out HRx1.out HCx1.out).mono ?_
                        rintro e w11 ⟨v0, v1, rfl, ho0, ho1, hb⟩
                        replace HB := Aside0.mk (below_step HB.out hb)
                        replace HRx0 := Aside0.mk (Kd.C_below HRx0.out hb)
                        replace HRx1 := Aside0.mk (Kd.C_below HRx1.out hb)
                        replace HRy0 := Aside0.mk (Kd.C_below HRy0.out hb)
                        replace HRy1 := Aside0.mk (Kd.C_below HRy1.out hb)
                        replace HRk := Aside0.mk (Kd.C_below HRk.out hb)
                        replace HRl := Aside0.mk (Kd.C_below HRl.out hb)
                        replace HRi := Aside0.mk (Kd.C_below HRi.out hb)
                        replace HRo := Aside0.mk (Kd.C_below HRo.out hb)
                        replace HRn := Aside0.mk (Kd.C_below HRn.out hb)
                        replace HRp0 := Aside0.mk (Kd.C_below HRp0.out hb)
                        replace HRp1 := Aside0.mk (Kd.C_below HRp1.out hb)
                        replace HRq0 := Aside0.mk (Kd.C_below HRq0.out hb)
                        replace HRq1 := Aside0.mk (Kd.C_below HRq1.out hb)
                        replace KA := Aside0.mk (KA.out.below hb)
                        replace KB := Aside0.mk (KB.out.below hb)
                        replace KP := Aside0.mk (KP.out.below hb)
                        replace KQ := Aside0.mk (KQ.out.below hb)
                        clear hb
                        obtain ⟨Lc0, hLc0⟩ : ∃ L, notL lx0 lx1 300 lx1 = L := ⟨_, rfl⟩
                        rw [hLc0] at ho0
                        obtain ⟨Ac0, cc0, rfl, hcc0, hrc0⟩ := ho0.slice
                        have HRc0 := Aside0.mk hrc0
                        have HCc0 := Aside0.mk hcc0
                        clear ho0 hrc0 hcc0
                        obtain ⟨Lc1, hLc1⟩ : ∃ L, notL lx0 lx1 300 lx0 = L := ⟨_, rfl⟩
                        rw [hLc1] at ho1
                        obtain ⟨Ac1, cc1, rfl, hcc1, hrc1⟩ := ho1.slice
                        have HRc1 := Aside0.mk hrc1
                        have HCc1 := Aside0.mk hcc1
                        clear ho1 hrc1 hcc1
                        have HLc0 := Aside0.mk hLc0
                        clear hLc0
                        have HLc1 := Aside0.mk hLc1
                        clear hLc1
                        have HT : Aside0 (trueB Lp0 Lp1 Li = true ∧ trueB Lq0 Lq1 Lo = true ∧ trueB Lc0 Lc1 Ln = true) := ⟨by rw [← HLp0.out, ← HLp1.out, ← HLq0.out, ← HLq1.out, ← HLc0.out, ← HLc1.out, ← HLi.out, ← HLo.out, ← HLn.out]; exact true_law HB1.out HB2.out⟩
                        obtain ⟨w12, hW12⟩ : ∃ x, w11.alloc (.cells #[.slice Ac0 Lc0.length cc0, .slice Ac1 Lc1.length cc1] 29) = x := ⟨_, rfl⟩
                        have hb : Below w11.heap.size w11 w12 := by rw [← hW12]; exact below_alloc (Below.refl _ _) _
                        replace HB := Aside0.mk (below_step HB.out hb)
                        replace HRx0 := Aside0.mk (Kd.C_below HRx0.out hb)
                        replace HRx1 := Aside0.mk (Kd.C_below HRx1.out hb)
                        replace HRy0 := Aside0.mk (Kd.C_below HRy0.out hb)
                        replace HRy1 := Aside0.mk (Kd.C_below HRy1.out hb)
                        replace HRk := Aside0.mk (Kd.C_below HRk.out hb)
                        replace HRl := Aside0.mk (Kd.C_below HRl.out hb)
                        replace HRi := Aside0.mk (Kd.C_below HRi.out hb)
                        replace HRo := Aside0.mk (Kd.C_below HRo.out hb)
                        replace HRn := Aside0.mk (Kd.C_below HRn.out hb)
                        replace HRp0 := Aside0.mk (Kd.C_below HRp0.out hb)
                        replace HRp1 := Aside0.mk (Kd.C_below HRp1.out hb)
                        replace HRq0 := Aside0.mk (Kd.C_below HRq0.out hb)
                        replace HRq1 := Aside0.mk (Kd.C_below HRq1.out hb)
                        replace HRc0 := Aside0.mk (Kd.C_below HRc0.out hb)
                        replace HRc1 := Aside0.mk (Kd.C_below HRc1.out hb)
                        replace KA := Aside0.mk (KA.out.below hb)
                        replace KB := Aside0.mk (KB.out.below hb)
                        replace KP := Aside0.mk (KP.out.below hb)
                        replace KQ := Aside0.mk (KQ.out.below hb)
                        clear hb
                        have KC : Aside0 (Held w12 (w11.heap.size) (.slice Ac0 Lc0.length cc0) (.slice Ac1 Lc1.length cc1)) := ⟨by rw [← hW12]; exact Held.new _ _ _⟩
                        have hP0 := KP.out.c0
                        rw [← hW12] at hP0
                        have hP1 := KP.out.c1
                        rw [← hW12] at hP1
                        have AhW12 := Aside0.mk hW12
                        clear hW12
                        go_wp2_with fail
                        clear hP0 hP1
                        rw [AhW12.out]
                        clear AhW12
                        refine (True_any Ap0 cp0 Lp0 Ap1 cp1 Lp1 Ai ci Li _ HRp0.out HCp0.out HRp1.out HCp1.out HRi.out HCi.out).mono ?_
                        rintro e w13 ⟨rfl, hb⟩
                        replace HB := Aside0.mk (below_step HB.out hb)
                        replace HRx0 := Aside0.mk (Kd.C_below HRx0.out hb)
                        replace HRx1 := Aside0.mk (Kd.C_below HRx1.out hb)
                        replace HRy0 := Aside0.mk (Kd.C_below HRy0.out hb)
                        replace HRy1 := Aside0.mk (Kd.C_below HRy1.out hb)
                        replace HRk := Aside0.mk (Kd.C_below HRk.out hb)
                        replace HRl := Aside0.mk (Kd.C_below HRl.out hb)
                        replace HRi := Aside0.mk (Kd.C_below HRi.out hb)
                        replace HRo := Aside0.mk (Kd.C_below HRo.out hb)
                        replace HRn := Aside0.mk (Kd.C_below HRn.out hb)
                        replace HRp0 := Aside0.mk (Kd.C_below HRp0.out hb)
                        replace HRp1 := Aside0.mk (Kd.C_below HRp1.out hb)
                        replace HRq0 := Aside0.mk (Kd.C_below HRq0.out hb)
                        replace HRq1 := Aside0.mk (Kd.C_below HRq1.out hb)
                        replace HRc0 := Aside0.mk (Kd.C_below HRc0.out hb)
                        replace HRc1 := Aside0.mk (Kd.C_below HRc1.out hb)
                        replace KA := Aside0.mk (KA.out.below hb)
                        replace KB := Aside0.mk (KB.out.below hb)
                        replace KP := Aside0.mk (KP.out.below hb)
                        replace KQ := Aside0.mk (KQ.out.below hb)
                        replace KC := Aside0.mk (KC.out.below hb)
                        clear hb
                        rw [HT.out.1]
                        have hQ0 := KQ.out.c0
                        have hQ1 := KQ.out.c1
                        go_wp2_with fail
                        clear hQ0 hQ1
                        refine (True_any Aq0 cq0 Lq0 Aq1 cq1 Lq1 Ao co Lo _ HRq0.out HCq0.out HRq1.out HCq1.out HRo.out HCo.out).mono ?_
                        rintro e w14 ⟨rfl, hb⟩
                        replace HB := Aside0.mk (below_step HB.out hb)
                        replace HRx0 := Aside0.mk (Kd.C_below HRx0.out hb)
                        replace HRx1 := Aside0.mk (Kd.C_below HRx1.out hb)
                        replace HRy0 := Aside0.mk (Kd.C_below HRy0.out hb)
                        replace HRy1 := Aside0.mk (Kd.C_below HRy1.out hb)
                        replace HRk := Aside0.mk (Kd.C_below HRk.out hb)
                        replace HRl := Aside0.mk (Kd.C_below HRl.out hb)
                        replace HRi := Aside0.mk (Kd.C_below HRi.out hb)
                        replace HRo := Aside0.mk (Kd.C_below HRo.out hb)
                        replace HRn := Aside0.mk (Kd.C_below HRn.out hb)
                        replace HRp0 := Aside0.mk (Kd.C_below HRp0.out hb)
                        replace HRp1 := Aside0.mk (Kd.C_below HRp1.out hb)
                        replace HRq0 := Aside0.mk (Kd.C_below HRq0.out hb)
                        replace HRq1 := Aside0.mk (Kd.C_below HRq1.out hb)
                        replace HRc0 := Aside0.mk (Kd.C_below HRc0.out hb)
                        replace HRc1 := Aside0.mk (Kd.C_below HRc1.out hb)
                        replace KA := Aside0.mk (KA.out.below hb)
                        replace KB := Aside0.mk (KB.out.below hb)
                        replace KP := Aside0.mk (KP.out.below hb)
                        replace KQ := Aside0.mk (KQ.out.below hb)
                        replace KC := Aside0.mk (KC.out.below hb)
                        clear hb
                        rw [HT.out.2.1]
                        have hC0 := KC.out.c0
                        have hC1 := KC.out.c1
                        go_wp2_with fail
                        clear hC0 hC1
                        refine (True_any Ac0 cc0 Lc0 Ac1 cc1 Lc1 An cn Ln _ HRc0.out HCc0.out HRc1.out HCc1.out HRn.out HCn.out).mono ?_
                        rintro e w15 ⟨rfl, hb⟩
                        replace HB := Aside0.mk (below_step HB.out hb)
                        replace HRx0 := Aside0.mk (Kd.C_below HRx0.out hb)
                        replace HRx1 := Aside0.mk (Kd.C_below HRx1.out hb)
                        replace HRy0 := Aside0.mk (Kd.C_below HRy0.out hb)
                        replace HRy1 := Aside0.mk (Kd.C_below HRy1.out hb)
                        replace HRk := Aside0.mk (Kd.C_below HRk.out hb)
                        replace HRl := Aside0.mk (Kd.C_below HRl.out hb)
                        replace HRi := Aside0.mk (Kd.C_below HRi.out hb)
                        replace HRo := Aside0.mk (Kd.C_below HRo.out hb)
                        replace HRn := Aside0.mk (Kd.C_below HRn.out hb)
                        replace HRp0 := Aside0.mk (Kd.C_below HRp0.out hb)
                        replace HRp1 := Aside0.mk (Kd.C_below HRp1.out hb)
                        replace HRq0 := Aside0.mk (Kd.C_below HRq0.out hb)
                        replace HRq1 := Aside0.mk (Kd.C_below HRq1.out hb)
                        replace HRc0 := Aside0.mk (Kd.C_below HRc0.out hb)
                        replace HRc1 := Aside0.mk (Kd.C_below HRc1.out hb)
                        replace KA := Aside0.mk (KA.out.below hb)
                        replace KB := Aside0.mk (KB.out.below hb)
                        replace KP := Aside0.mk (KP.out.below hb)
                        replace KQ := Aside0.mk (KQ.out.below hb)
                        replace KC := Aside0.mk (KC.out.below hb)
                        clear hb
                        rw [HT.out.2.2]
                        go_wp2_with fail
                        refine (known_any _).mono ?_
                        rintro e w16 ⟨rfl, hb⟩
                        replace HB := Aside0.mk (below_step HB.out hb)
                        replace HRx0 := Aside0.mk (Kd.C_below HRx0.out hb)
                        replace HRx1 := Aside0.mk (Kd.C_below HRx1.out hb)
                        replace HRy0 := Aside0.mk (Kd.C_below HRy0.out hb)
                        replace HRy1 := Aside0.mk (Kd.C_below HRy1.out hb)
                        replace HRk := Aside0.mk (Kd.C_below HRk.out hb)
                        replace HRl := Aside0.mk (Kd.C_below HRl.out hb)
                        replace HRi := Aside0.mk (Kd.C_below HRi.out hb)
                        replace HRo := Aside0.mk (Kd.C_below HRo.out hb)
                        replace HRn := Aside0.mk (Kd.C_below HRn.out hb)
                        replace HRp0 := Aside0.mk (Kd.C_below HRp0.out hb)
                        replace HRp1 := Aside0.mk (Kd.C_below HRp1.out hb)
                        replace HRq0 := Aside0.mk (Kd.C_below HRq0.out hb)
                        replace HRq1 := Aside0.mk (Kd.C_below HRq1.out hb)
                        replace HRc0 := Aside0.mk (Kd.C_below HRc0.out hb)
                        replace HRc1 := Aside0.mk (Kd.C_below HRc1.out hb)
                        replace KA := Aside0.mk (KA.out.below hb)
                        replace KB := Aside0.mk (KB.out.below hb)
                        replace KP := Aside0.mk (KP.out.below hb)
                        replace KQ := Aside0.mk (KQ.out.below hb)
                        replace KC := Aside0.mk (KC.out.below hb)
                        clear hb
                        go_wp2_with fail
                        go_ret
                        exact ⟨rfl, HB.out⟩
              ·
                have q1 : (e2 != 0) = true := bne_iff_ne.2 h2
                have q2 : (e2 == 0) = false := beq_eq_false_iff_ne.2 h2
                clear h2
                go_wp2_with fail
                refine (known_any _).mono ?_
                rintro e w7 ⟨rfl, hb⟩
                replace HB := Aside0.mk (below_step HB.out hb)
                replace HRx0 := Aside0.mk (Kd.C_below HRx0.out hb)
                replace HRx1 := Aside0.mk (Kd.C_below HRx1.out hb)
                replace HRy0 := Aside0.mk (Kd.C_below HRy0.out hb)
                replace HRy1 := Aside0.mk (Kd.C_below HRy1.out hb)
                replace HRk := Aside0.mk (Kd.C_below HRk.out hb)
                replace HRl := Aside0.mk (Kd.C_below HRl.out hb)
                replace KA := Aside0.mk (KA.out.below hb)
                replace KB := Aside0.mk (KB.out.below hb)
                clear hb
                go_wp2_with fail
                go_ret
                exact ⟨rfl, HB.out⟩
            ·
              have q1 : (e1 != 0) = true := bne_iff_ne.2 h1
              have q2 : (e1 == 0) = false := beq_eq_false_iff_ne.2 h1
              clear h1
              go_wp2_with fail
              refine (known_any _).mono ?_
              rintro e w7 ⟨rfl, hb⟩
              replace HB := Aside0.mk (below_step HB.out hb)
              replace HRx0 := Aside0.mk (Kd.C_below HRx0.out hb)
              replace HRx1 := Aside0.mk (Kd.C_below HRx1.out hb)
              replace HRy0 := Aside0.mk (Kd.C_below HRy0.out hb)
              replace HRy1 := Aside0.mk (Kd.C_below HRy1.out hb)
              replace HRk := Aside0.mk (Kd.C_below HRk.out hb)
              replace HRl := Aside0.mk (Kd.C_below HRl.out hb)
              replace KA := Aside0.mk (KA.out.below hb)
              replace KB := Aside0.mk (KB.out.below hb)
              clear hb
              go_wp2_with fail
              go_ret
              exact ⟨rfl, HB.out⟩
      ·
        go_wp2_with fail
        refine (known_any _).mono ?_
        rintro e w4 ⟨rfl, hb⟩
        replace HB := Aside0.mk (below_step HB.out hb)
        replace HRx0 := Aside0.mk (Kd.C_below HRx0.out hb)
        replace HRx1 := Aside0.mk (Kd.C_below HRx1.out hb)
        replace HRy0 := Aside0.mk (Kd.C_below HRy0.out hb)
        replace HRy1 := Aside0.mk (Kd.C_below HRy1.out hb)
        replace HRk := Aside0.mk (Kd.C_below HRk.out hb)
        replace HRl := Aside0.mk (Kd.C_below HRl.out hb)
        replace KA := Aside0.mk (KA.out.below hb)
        replace KB := Aside0.mk (KB.out.below hb)
        clear hb
        go_wp2_with fail
        go_ret
        exact ⟨rfl, HB.out⟩
    ·
      go_wp2_with fail
      refine (known_any _).mono ?_
      rintro e w3 ⟨rfl, hb⟩
      replace HB := Aside0.mk (below_step HB.out hb)
      replace HRx0 := Aside0.mk (Kd.C_below HRx0.out hb)
      replace HRx1 := Aside0.mk (Kd.C_below HRx1.out hb)
      replace HRy0 := Aside0.mk (Kd.C_below HRy0.out hb)
      replace HRy1 := Aside0.mk (Kd.C_below HRy1.out hb)
      replace HRk := Aside0.mk (Kd.C_below HRk.out hb)
      replace HRl := Aside0.mk (Kd.C_below HRl.out hb)
      replace KA := Aside0.mk (KA.out.below hb)
      replace KB := Aside0.mk (KB.out.below hb)
      clear hb
      go_wp2_with fail
      go_ret
      exact ⟨rfl, HB.out⟩
  ·
    obtain ⟨w1, hW⟩ : ∃ z, (((w.alloc (.cells #[.slice Ax0 lx0.length cx0, .slice Ax1 lx1.length cx1, .slice Ay0 ly0.length cy0, .slice Ay1 ly1.length cy1] 44)).alloc (.cells #[.slice Ay0 ly0.length cy0, .slice Ay1 ly1.length cy1] 29)).alloc (.cells #[.slice Ax0 lx0.length cx0, .slice Ax1 lx1.length cx1] 29)).drew = z := ⟨_, rfl⟩
    have hb : Below w.heap.size w w1 := by rw [← hW]; exact below_drew1 (below_alloc (below_alloc (below_alloc (Below.refl _ _) _) _) _)
    replace HB := Aside0.mk (below_step HB.out hb)
    replace HRx0 := Aside0.mk (Kd.C_below HRx0.out hb)
    replace HRx1 := Aside0.mk (Kd.C_below HRx1.out hb)
    replace HRy0 := Aside0.mk (Kd.C_below HRy0.out hb)
    replace HRy1 := Aside0.mk (Kd.C_below HRy1.out hb)
    replace HRk := Aside0.mk (Kd.C_below HRk.out hb)
    replace HRl := Aside0.mk (Kd.C_below HRl.out hb)
    clear hb
    have KA : Aside0 (Held w1 (w.heap.size + 1 + 1) (.slice Ax0 lx0.length cx0) (.slice Ax1 lx1.length cx1)) := ⟨by rw [← hW]; exact (Held.new _ _ _).at_ (by rw [alloc_size, alloc_size])⟩
    have KB : Aside0 (Held w1 (w.heap.size + 1) (.slice Ay0 ly0.length cy0) (.slice Ay1 ly1.length cy1)) := ⟨by rw [← hW]; exact ((Held.new _ _ _).at_ (alloc_size _ _)).alloc _⟩
    rw [hW]
    clear hW
    have hA0 := KA.out.c0
    have hA1 := KA.out.c1
    go_wp2_with fail
    clear hA0 hA1
    refine (over_any Ax0 cx0 lx0 Ax1 cx1 lx1 _ HRx0.out HCx0.out HRx1.out HCx1.out).mono ?_
    rintro e w2 ⟨rfl, hb⟩
    replace HB := Aside0.mk (below_step HB.out hb)
    replace HRx0 := Aside0.mk (Kd.C_below HRx0.out hb)
    replace HRx1 := Aside0.mk (Kd.C_below HRx1.out hb)
    replace HRy0 := Aside0.mk (Kd.C_below HRy0.out hb)
    replace HRy1 := Aside0.mk (Kd.C_below HRy1.out hb)
    replace HRk := Aside0.mk (Kd.C_below HRk.out hb)
    replace HRl := Aside0.mk (Kd.C_below HRl.out hb)
    replace KA := Aside0.mk (KA.out.below hb)
    replace KB := Aside0.mk (KB.out.below hb)
    clear hb
    cases hovx : overB lx0 lx1
    · have ovx := overB_false hovx
      have hB0 := KB.out.c0
      have hB1 := KB.out.c1
      go_wp2_with fail
      clear hB0 hB1
      refine (over_any Ay0 cy0 ly0 Ay1 cy1 ly1 _ HRy0.out HCy0.out HRy1.out HCy1.out).mono ?_
      rintro e w3 ⟨rfl, hb⟩
      replace HB := Aside0.mk (below_step HB.out hb)
      replace HRx0 := Aside0.mk (Kd.C_below HRx0.out hb)
      replace HRx1 := Aside0.mk (Kd.C_below HRx1.out hb)
      replace HRy0 := Aside0.mk (Kd.C_below HRy0.out hb)
      replace HRy1 := Aside0.mk (Kd.C_below HRy1.out hb)
      replace HRk := Aside0.mk (Kd.C_below HRk.out hb)
      replace HRl := Aside0.mk (Kd.C_below HRl.out hb)
      replace KA := Aside0.mk (KA.out.below hb)
      replace KB := Aside0.mk (KB.out.below hb)
      clear hb
      cases hovy : overB ly0 ly1
      · have ovy := overB_false hovy
        by_cases hk : (lk.length : Int) > 3000
        · have hkb := decide_eq_true hk
          go_wp2_with fail
          refine (known_any _).mono ?_
          rintro e w4 ⟨rfl, hb⟩
          replace HB := Aside0.mk (below_step HB.out hb)
          replace HRx0 := Aside0.mk (Kd.C_below HRx0.out hb)
          replace HRx1 := Aside0.mk (Kd.C_below HRx1.out hb)
          replace HRy0 := Aside0.mk (Kd.C_below HRy0.out hb)
          replace HRy1 := Aside0.mk (Kd.C_below HRy1.out hb)
          replace HRk := Aside0.mk (Kd.C_below HRk.out hb)
          replace HRl := Aside0.mk (Kd.C_below HRl.out hb)
          replace KA := Aside0.mk (KA.out.below hb)
          replace KB := Aside0.mk (KB.out.below hb)
          clear hb
          go_wp2_with fail
          go_ret
          exact ⟨rfl, HB.out⟩
        · have hkb := decide_eq_false hk
          by_cases hl : (ll.length : Int) > 3000
          · have hlb := decide_eq_true hl
            go_wp2_with fail
            refine (known_any _).mono ?_
            rintro e w4 ⟨rfl, hb⟩
            replace HB := Aside0.mk (below_step HB.out hb)
            replace HRx0 := Aside0.mk (Kd.C_below HRx0.out hb)
            replace HRx1 := Aside0.mk (Kd.C_below HRx1.out hb)
            replace HRy0 := Aside0.mk (Kd.C_below HRy0.out hb)
            replace HRy1 := Aside0.mk (Kd.C_below HRy1.out hb)
            replace HRk := Aside0.mk (Kd.C_below HRk.out hb)
            replace HRl := Aside0.mk (Kd.C_below HRl.out hb)
            replace KA := Aside0.mk (KA.out.below hb)
            replace KB := Aside0.mk (KB.out.below hb)
            clear hb
            go_wp2_with fail
            go_ret
            exact ⟨rfl, HB.out⟩
          · have hlb := decide_eq_false hl
            have hk3 : lk.length ≤ 3000 := by omega
            have hl3 : ll.length ≤ 3000 := by omega
            have hA0 := KA.out.c0
            have hA1 := KA.out.c1
            go_wp2_with fail
            clear hA0 hA1
            refine (True_any Ax0 cx0 lx0 Ax1 cx1 lx1 Ak ck lk _ HRx0.out HCx0.out HRx1.out HCx1.out HRk.out HCk.out).mono ?_
            rintro e w4 ⟨rfl, hb⟩
            replace HB := Aside0.mk (below_step HB.out hb)
            replace HRx0 := Aside0.mk (Kd.C_below HRx0.out hb)
            replace HRx1 := Aside0.mk (Kd.C_below HRx1.out hb)
            replace HRy0 := Aside0.mk (Kd.C_below HRy0.out hb)
            replace HRy1 := Aside0.mk (Kd.C_below HRy1.out hb)
            replace HRk := Aside0.mk (Kd.C_below HRk.out hb)
            replace HRl := Aside0.mk (Kd.C_below HRl.out hb)
            replace KA := Aside0.mk (KA.out.below hb)
            replace KB := Aside0.mk (KB.out.below hb)
            clear hb
            generalize hb1 : trueB lx0 lx1 lk = b1
            generalize he1 : trueE lx0 lx1 lk = e1
            have HB1 := Aside0.mk hb1
            have HE1 := Aside0.mk he1
            clear hb1 he1
            have hA0 := KA.out.c0
            have hA1 := KA.out.c1
            go_wp2_with fail
            clear hA0 hA1
            refine (TrueR_any Ax0 cx0 lx0 Ax1 cx1 lx1 Ak ck lk _ HRx0.out HCx0.out HRx1.out HCx1.out HRk.out HCk.out ovx.1 ovx.2 hk3).mono ?_
            rintro e w5 ⟨rfl, hb⟩
            replace HB := Aside0.mk (below_step HB.out hb)
            replace HRx0 := Aside0.mk (Kd.C_below HRx0.out hb)
            replace HRx1 := Aside0.mk (Kd.C_below HRx1.out hb)
            replace HRy0 := Aside0.mk (Kd.C_below HRy0.out hb)
            replace HRy1 := Aside0.mk (Kd.C_below HRy1.out hb)
            replace HRk := Aside0.mk (Kd.C_below HRk.out hb)
            replace HRl := Aside0.mk (Kd.C_below HRl.out hb)
            replace KA := Aside0.mk (KA.out.below hb)
            replace KB := Aside0.mk (KB.out.below hb)
            clear hb
            rw [HB1.out, HE1.out]
            have hB0 := KB.out.c0
            have hB1 := KB.out.c1
            go_wp2_with fail
            clear hB0 hB1
            refine (True_any Ay0 cy0 ly0 Ay1 cy1 ly1 Al cl ll _ HRy0.out HCy0.out HRy1.out HCy1.out HRl.out HCl.out).mono ?_
            rintro e w6 ⟨rfl, hb⟩
            replace HB := Aside0.mk (below_step HB.out hb)
            replace HRx0 := Aside0.mk (Kd.C_below HRx0.out hb)
            replace HRx1 := Aside0.mk (Kd.C_below HRx1.out hb)
            replace HRy0 := Aside0.mk (Kd.C_below HRy0.out hb)
            replace HRy1 := Aside0.mk (Kd.C_below HRy1.out hb)
            replace HRk := Aside0.mk (Kd.C_below HRk.out hb)
            replace HRl := Aside0.mk (Kd.C_below HRl.out hb)
            replace KA := Aside0.mk (KA.out.below hb)
            replace KB := Aside0.mk (KB.out.below hb)
            clear hb
            generalize hb2 : trueB ly0 ly1 ll = b2
            generalize he2 : trueE ly0 ly1 ll = e2
            have HB2 := Aside0.mk hb2
            have HE2 := Aside0.mk he2
            clear hb2 he2
            by_cases h1 : e1 = 0
            · subst h1
              by_cases h2 : e2 = 0
              · subst h2
                cases b1
                ·
                  go_wp2_with fail
                  refine (known_any _).mono ?_
                  rintro e w7 ⟨rfl, hb⟩
                  replace HB := Aside0.mk (below_step HB.out hb)
                  replace HRx0 := Aside0.mk (Kd.C_below HRx0.out hb)
                  replace HRx1 := Aside0.mk (Kd.C_below HRx1.out hb)
                  replace HRy0 := Aside0.mk (Kd.C_below HRy0.out hb)
                  replace HRy1 := Aside0.mk (Kd.C_below HRy1.out hb)
                  replace HRk := Aside0.mk (Kd.C_below HRk.out hb)
                  replace HRl := Aside0.mk (Kd.C_below HRl.out hb)
                  replace KA := Aside0.mk (KA.out.below hb)
                  replace KB := Aside0.mk (KB.out.below hb)
                  clear hb
                  go_wp2_with fail
                  go_ret
                  exact ⟨rfl, HB.out⟩
                ·
                  cases b2
                  ·
                    go_wp2_with fail
                    refine (known_any _).mono ?_
                    rintro e w7 ⟨rfl, hb⟩
                    replace HB := Aside0.mk (below_step HB.out hb)
                    replace HRx0 := Aside0.mk (Kd.C_below HRx0.out hb)
                    replace HRx1 := Aside0.mk (Kd.C_below HRx1.out hb)
                    replace HRy0 := Aside0.mk (Kd.C_below HRy0.out hb)
                    replace HRy1 := Aside0.mk (Kd.C_below HRy1.out hb)
                    replace HRk := Aside0.mk (Kd.C_below HRk.out hb)
                    replace HRl := Aside0.mk (Kd.C_below HRl.out hb)
                    replace KA := Aside0.mk (KA.out.below hb)
                    replace KB := Aside0.mk (KB.out.below hb)
                    clear hb
                    go_wp2_with fail
                    go_ret
                    exact ⟨rfl, HB.out⟩
                  ·
                    go_wp2_with fail
                    go_loopw [15, 16, 17, 18] (fun v15 v16 v17 v18 wr => ∃ n : Nat, v18 = .int .i64 ((n : Int) + 1) ∧ n ≤ 300 ∧ Aside0 (Own wr w6.heap.size v15 (inL lk ll n)) ∧ Aside0 (Own wr w6.heap.size v16 (orL lk ll n)) ∧ Aside0 (Own wr w6.heap.size v17 (noL lk n)) ∧ Aside0 (Apart2 v15 v16) ∧ Aside0 (Apart2 v15 v17) ∧ Aside0 (Apart2 v16 v17) ∧ Aside0 (Below w6.heap.size w6 wr)) (fun v15 v16 v17 v18 wr => (301 - intOf v18).toNat)
                    case atStart => exact ⟨0, rfl, by omega, ⟨Own.nil _ _⟩, ⟨Own.nil _ _⟩, ⟨Own.nil _ _⟩, ⟨Apart2.nil _⟩, ⟨Apart2.nil _⟩, ⟨Apart2.nil _⟩, ⟨Below.refl _ _⟩⟩
                    case round =>
                      obtain ⟨n, rfl, hn, H15, H16, H17, P1, P2, P3, HBr⟩ := hrel
                      by_cases hlt : n < 300
                      ·
                        go_wp2_with fail
                        refine (HasR_any Ak ck lk _ _ (Kd.C_below HRk.out HBr.out) HCk.out hk3).mono ?_
                        rintro e w' ⟨rfl, na, rfl⟩
                        generalize hd1 : decide ((n : Int) + 1 ∈ lk) = d1
                        have HD1 := Aside0.mk hd1
                        clear hd1
                        go_wp2_with fail
                        refine (HasR_any Al cl ll _ _ (Kd.C_below HRl.out (pw_below_drewN HBr.out _)) HCl.out hl3).mono ?_
                        rintro e w' ⟨rfl, nb, rfl⟩
                        generalize hd2 : decide ((n : Int) + 1 ∈ ll) = d2
                        have HD2 := Aside0.mk hd2
                        clear hd2
                        have HL15 : Aside0 ((inL lk ll n).length ≤ 300) := ⟨Nat.le_trans (upTo_filter_length n _) hn⟩
                        have HL16 : Aside0 ((orL lk ll n).length ≤ 300) := ⟨Nat.le_trans (upTo_filter_length n _) hn⟩
                        have HL17 : Aside0 ((noL lk n).length ≤ 300) := ⟨Nat.le_trans (upTo_filter_length n _) hn⟩
                        have HW : Aside0 (Below w6.heap.size w6 ((wr.drewN na).drewN nb)) := ⟨pw_below_drewN (pw_below_drewN HBr.out _) _⟩
                        have G15 : Aside0 (Own ((wr.drewN na).drewN nb) w6.heap.size u15 (inL lk ll n)) := ⟨H15.out⟩
                        have G16 : Aside0 (Own ((wr.drewN na).drewN nb) w6.heap.size u16 (orL lk ll n)) := ⟨H16.out⟩
                        have G17 : Aside0 (Own ((wr.drewN na).drewN nb) w6.heap.size u17 (noL lk n)) := ⟨H17.out⟩
                        have I15 : Aside0 (inL lk ll ((n + 1 : Nat) : Int) = inL lk ll n ++ if (d1 && d2) = true then [(n : Int) + 1] else []) := ⟨by rw [← HD1.out, ← HD2.out]; exact upTo_filter_succ n _⟩
                        have I16 : Aside0 (orL lk ll ((n + 1 : Nat) : Int) = orL lk ll n ++ if (d1 || d2) = true then [(n : Int) + 1] else []) := ⟨by rw [← HD1.out, ← HD2.out]; exact upTo_filter_succ n _⟩
                        have I17 : Aside0 (noL lk ((n + 1 : Nat) : Int) = noL lk n ++ if (!d1) = true then [(n : Int) + 1] else []) := ⟨by rw [← HD1.out]; exact upTo_filter_succ n _⟩
                        generalize (wr.drewN na).drewN nb = wq at *
                        cases d1 <;> cases d2
                        ·
                          go_wp2_with (first
                            | (at_builtin; refine app1d (w0 := w6) (W := wq) w6.heap.size (by rfl) _ _ (by rfl) u17 (noL lk n) ((n : Int) + 1) u15 u16 (inL lk ll n) (orL lk ll n) (by rfl) (by rfl) G17.out G15.out G16.out (P2.out) (P3.out) HW.out HW.out.size (by have := HL17.out; omega) ?_; intro vv170 wz0 ho1 ho2 ho3 ap1 ap2 hb; have N17_0 := Aside0.mk ho1; have N15_0 := Aside0.mk ho2; have N16_0 := Aside0.mk ho3; have Q0_1 := Aside0.mk ap1; have Q0_2 := Aside0.mk ap2; have HB0_ := Aside0.mk hb; clear ho1 ho2 ho3 ap1 ap2 hb))
                          go_roundw
                          case rel => exact ⟨n + 1, by go_num, by omega, ⟨by rw [I15.out]; simpa using N15_0.out⟩, ⟨by rw [I16.out]; simpa using N16_0.out⟩, ⟨by rw [I17.out]; simpa using N17_0.out⟩, ⟨P1.out⟩, ⟨Q0_1.out⟩, ⟨Q0_2.out⟩, HB0_⟩
                          case measure => simp [intOf]; omega
                        ·
                          go_wp2_with (first
                            | (at_builtin; refine app1d (w0 := w6) (W := wq) w6.heap.size (by rfl) _ _ (by rfl) u16 (orL lk ll n) ((n : Int) + 1) u15 u17 (inL lk ll n) (noL lk n) (by rfl) (by rfl) G16.out G15.out G17.out (P1.out) (P3.out.symm) HW.out HW.out.size (by have := HL16.out; omega) ?_; intro vv160 wz0 ho1 ho2 ho3 ap1 ap2 hb; have N16_0 := Aside0.mk ho1; have N15_0 := Aside0.mk ho2; have N17_0 := Aside0.mk ho3; have Q0_1 := Aside0.mk ap1; have Q0_2 := Aside0.mk ap2; have HB0_ := Aside0.mk hb; clear ho1 ho2 ho3 ap1 ap2 hb)
                            | (at_builtin; refine app1d (w0 := w6) (W := wz0) w6.heap.size (by rfl) _ _ (by rfl) u17 (noL lk n) ((n : Int) + 1) u15 vv160 (inL lk ll n) ((orL lk ll n) ++ [(n : Int) + 1]) (by rfl) (by rfl) N17_0.out N15_0.out N16_0.out (P2.out) (Q0_2.out.symm) HB0_.out HB0_.out.size (by have := HL17.out; omega) ?_; intro vv171 wz1 ho1 ho2 ho3 ap1 ap2 hb; have N17_1 := Aside0.mk ho1; have N15_1 := Aside0.mk ho2; have N16_1 := Aside0.mk ho3; have Q1_1 := Aside0.mk ap1; have Q1_2 := Aside0.mk ap2; have HB1_ := Aside0.mk hb; clear ho1 ho2 ho3 ap1 ap2 hb))
                          go_roundw
                          case rel => exact ⟨n + 1, by go_num, by omega, ⟨by rw [I15.out]; simpa using N15_1.out⟩, ⟨by rw [I16.out]; simpa using N16_1.out⟩, ⟨by rw [I17.out]; simpa using N17_1.out⟩, ⟨Q0_1.out⟩, ⟨Q1_1.out⟩, ⟨Q1_2.out⟩, HB1_⟩
                          case measure => simp [intOf]; omega
                        ·
                          go_wp2_with (first
                            | (at_builtin; refine app1d (w0 := w6) (W := wq) w6.heap.size (by rfl) _ _ (by rfl) u16 (orL lk ll n) ((n : Int) + 1) u15 u17 (inL lk ll n) (noL lk n) (by rfl) (by rfl) G16.out G15.out G17.out (P1.out) (P3.out.symm) HW.out HW.out.size (by have := HL16.out; omega) ?_; intro vv160 wz0 ho1 ho2 ho3 ap1 ap2 hb; have N16_0 := Aside0.mk ho1; have N15_0 := Aside0.mk ho2; have N17_0 := Aside0.mk ho3; have Q0_1 := Aside0.mk ap1; have Q0_2 := Aside0.mk ap2; have HB0_ := Aside0.mk hb; clear ho1 ho2 ho3 ap1 ap2 hb))
                          go_roundw
                          case rel => exact ⟨n + 1, by go_num, by omega, ⟨by rw [I15.out]; simpa using N15_0.out⟩, ⟨by rw [I16.out]; simpa using N16_0.out⟩, ⟨by rw [I17.out]; simpa using N17_0.out⟩, ⟨Q0_1.out⟩, ⟨P2.out⟩, ⟨Q0_2.out.symm⟩, HB0_⟩
                          case measure => simp [intOf]; omega
                        ·
                          go_wp2_with (first
                            | (at_builtin; refine app1d (w0 := w6) (W := wq) w6.heap.size (by rfl) _ _ (by rfl) u15 (inL lk ll n) ((n : Int) + 1) u16 u17 (orL lk ll n) (noL lk n) (by rfl) (by rfl) G15.out G16.out G17.out (P1.out.symm) (P2.out.symm) HW.out HW.out.size (by have := HL15.out; omega) ?_; intro vv150 wz0 ho1 ho2 ho3 ap1 ap2 hb; have N15_0 := Aside0.mk ho1; have N16_0 := Aside0.mk ho2; have N17_0 := Aside0.mk ho3; have Q0_1 := Aside0.mk ap1; have Q0_2 := Aside0.mk ap2; have HB0_ := Aside0.mk hb; clear ho1 ho2 ho3 ap1 ap2 hb)
                            | (at_builtin; refine app1d (w0 := w6) (W := wz0) w6.heap.size (by rfl) _ _ (by rfl) u16 (orL lk ll n) ((n : Int) + 1) vv150 u17 ((inL lk ll n) ++ [(n : Int) + 1]) (noL lk n) (by rfl) (by rfl) N16_0.out N15_0.out N17_0.out (Q0_1.out.symm) (P3.out.symm) HB0_.out HB0_.out.size (by have := HL16.out; omega) ?_; intro vv161 wz1 ho1 ho2 ho3 ap1 ap2 hb; have N16_1 := Aside0.mk ho1; have N15_1 := Aside0.mk ho2; have N17_1 := Aside0.mk ho3; have Q1_1 := Aside0.mk ap1; have Q1_2 := Aside0.mk ap2; have HB1_ := Aside0.mk hb; clear ho1 ho2 ho3 ap1 ap2 hb))
                          go_roundw
                          case rel => exact ⟨n + 1, by go_num, by omega, ⟨by rw [I15.out]; simpa using N15_1.out⟩, ⟨by rw [I16.out]; simpa using N16_1.out⟩, ⟨by rw [I17.out]; simpa using N17_1.out⟩, ⟨Q1_1.out⟩, ⟨Q0_2.out.symm⟩, ⟨Q1_2.out.symm⟩, HB1_⟩
                          case measure => simp [intOf]; omega
                      · obtain rfl : n = 300 := by omega
                        replace HB := Aside0.mk (below_step HB.out HBr.out)
                        replace HRx0 := Aside0.mk (Kd.C_below HRx0.out HBr.out)
                        replace HRx1 := Aside0.mk (Kd.C_below HRx1.out HBr.out)
                        replace HRy0 := Aside0.mk (Kd.C_below HRy0.out HBr.out)
                        replace HRy1 := Aside0.mk (Kd.C_below HRy1.out HBr.out)
                        replace HRk := Aside0.mk (Kd.C_below HRk.out HBr.out)
                        replace HRl := Aside0.mk (Kd.C_below HRl.out HBr.out)
                        replace KA := Aside0.mk (KA.out.below HBr.out)
                        replace KB := Aside0.mk (KB.out.below HBr.out)
                        have ho := H15.out
                        obtain ⟨Li, hLi⟩ : ∃ L, inL lk ll ((300 : Nat) : Int) = L := ⟨_, rfl⟩
                        rw [hLi] at ho
                        obtain ⟨Ai, ci, rfl, hci, hri⟩ := ho.slice
                        have HRi := Aside0.mk hri
                        have HCi := Aside0.mk hci
                        have HLi := Aside0.mk hLi
                        clear ho hri hci hLi
                        have ho := H16.out
                        obtain ⟨Lo, hLo⟩ : ∃ L, orL lk ll ((300 : Nat) : Int) = L := ⟨_, rfl⟩
                        rw [hLo] at ho
                        obtain ⟨Ao, co, rfl, hco, hro⟩ := ho.slice
                        have HRo := Aside0.mk hro
                        have HCo := Aside0.mk hco
                        have HLo := Aside0.mk hLo
                        clear ho hro hco hLo
                        have ho := H17.out
                        obtain ⟨Ln, hLn⟩ : ∃ L, noL lk ((300 : Nat) : Int) = L := ⟨_, rfl⟩
                        rw [hLn] at ho
                        obtain ⟨An, cn, rfl, hcn, hrn⟩ := ho.slice
                        have HRn := Aside0.mk hrn
                        have HCn := Aside0.mk hcn
                        have HLn := Aside0.mk hLn
                        clear ho hrn hcn hLn
                        clear H15 H16 H17 P1 P2 P3 HBr
                        have hA0 := KA.out.c0
                        have hA1 := KA.out.c1
                        have hB0 := KB.out.c0
                        have hB1 := KB.out.c1
                        go_wp2_with fail
                        clear hA0 hA1 hB0 hB1
                        refine (And_any Ax0 cx0 lx0 Ax1 cx1 lx1 Ay0 cy0 ly0 Ay1 cy1 ly1 _ HRx0.out HCx0.out HRx1.out HCx1.out HRy0.out HCy0.out HRy1.out HCy1.out).mono ?_
                        rintro e w7 ⟨v0, v1, rfl, ho0, ho1, hb⟩
                        replace HB := Aside0.mk (below_step HB.out hb)
                        replace HRx0 := Aside0.mk (Kd.C_below HRx0.out hb)
                        replace HRx1 := Aside0.mk (Kd.C_below HRx1.out hb)
                        replace HRy0 := Aside0.mk (Kd.C_below HRy0.out hb)
                        replace HRy1 := Aside0.mk (Kd.C_below HRy1.out hb)
                        replace HRk := Aside0.mk (Kd.C_below HRk.out hb)
                        replace HRl := Aside0.mk (Kd.C_below HRl.out hb)
                        replace HRi := Aside0.mk (Kd.C_below HRi.out hb)
                        replace HRo := Aside0.mk (Kd.C_below HRo.out hb)
                        replace HRn := Aside0.mk (Kd.C_below HRn.out hb)
                        replace KA := Aside0.mk (KA.out.below hb)
                        replace KB := Aside0.mk (KB.out.below hb)
                        clear hb
                        obtain ⟨Lp0, hLp0⟩ : ∃ L, bothL (fun a b => a && b) lx0 lx1 ly0 ly1 lx0 ly0 = L := ⟨_, rfl⟩
                        rw [hLp0] at ho0
                        obtain ⟨Ap0, cp0, rfl, hcp0, hrp0⟩ := ho0.slice
                        have HRp0 := Aside0.mk hrp0
                        have HCp0 := Aside0.mk hcp0
                        clear ho0 hrp0 hcp0
                        obtain ⟨Lp1, hLp1⟩ : ∃ L, bothL (fun a b => a && b) lx0 lx1 ly0 ly1 lx1 ly1 = L := ⟨_, rfl⟩
                        rw [hLp1] at ho1
                        obtain ⟨Ap1, cp1, rfl, hcp1, hrp1⟩ := ho1.slice
                        have HRp1 := Aside0.mk hrp1
                        have HCp1 := Aside0.mk hcp1
                        clear ho1 hrp1 hcp1
                        have HLp0 := Aside0.mk hLp0
                        clear hLp0
                        have HLp1 := Aside0.mk hLp1
                        clear hLp1
                        obtain ⟨w8, hW8⟩ : ∃ x, w7.alloc (.cells #[.slice Ap0 Lp0.length cp0, .slice Ap1 Lp1.length cp1] 29) = x := ⟨_, rfl⟩
                        have hb : Below w7.heap.size w7 w8 := by rw [← hW8]; exact below_alloc (Below.refl _ _) _
                        replace HB := Aside0.mk (below_step HB.out hb)
                        replace HRx0 := Aside0.mk (Kd.C_below HRx0.out hb)
                        replace HRx1 := Aside0.mk (Kd.C_below HRx1.out hb)
                        replace HRy0 := Aside0.mk (Kd.C_below HRy0.out hb)
                        replace HRy1 := Aside0.mk (Kd.C_below HRy1.out hb)
                        replace HRk := Aside0.mk (Kd.C_below HRk.out hb)
                        replace HRl := Aside0.mk (Kd.C_below HRl.out hb)
                        replace HRi := Aside0.mk (Kd.C_below HRi.out hb)
                        replace HRo := Aside0.mk (Kd.C_below HRo.out hb)
                        replace HRn := Aside0.mk (Kd.C_below HRn.out hb)
                        replace HRp0 := Aside0.mk (Kd.C_below HRp0.out hb)
                        replace HRp1 := Aside0.mk (Kd.C_below HRp1.out hb)
                        replace KA := Aside0.mk (KA.out.below hb)
                        replace KB := Aside0.mk (KB.out.below hb)
                        clear hb
                        have KP : Aside0 (Held w8 (w7.heap.size) (.slice Ap0 Lp0.length cp0) (.slice Ap1 Lp1.length cp1)) := ⟨by rw [← hW8]; exact Held.new _ _ _⟩
                        have hA0 := KA.out.c0
                        rw [← hW8] at hA0
                        have hA1 := KA.out.c1
                        rw [← hW8] at hA1
                        have hB0 := KB.out.c0
                        rw [← hW8] at hB0
                        have hB1 := KB.out.c1
                        rw [← hW8] at hB1
                        have AhW8 := Aside0.mk hW8
                        clear hW8
                        go_wp2_with fail
                        clear hA0 hA1 hB0 hB1
                        rw [AhW8.out]
                        clear AhW8
                        refine (Or_any Ax0 cx0 lx0 Ax1 cx1 lx1 Ay0 cy0 ly0 Ay1 cy1 ly1 _ HRx0.out HCx0.out HRx1.out HCx1.out HRy0.out HCy0.out HRy1.out HCy1.out).mono ?_
                        rintro e w9 ⟨v0, v1, rfl, ho0, ho1, hb⟩
                        replace HB := Aside0.mk (below_step HB.out hb)
                        replace HRx0 := Aside0.mk (Kd.C_below HRx0.out hb)
                        replace HRx1 := Aside0.mk (Kd.C_below HRx1.out hb)
                        replace HRy0 := Aside0.mk (Kd.C_below HRy0.out hb)
                        replace HRy1 := Aside0.mk (Kd.C_below HRy1.out hb)
                        replace HRk := Aside0.mk (Kd.C_below HRk.out hb)
                        replace HRl := Aside0.mk (Kd.C_below HRl.out hb)
                        replace HRi := Aside0.mk (Kd.C_below HRi.out hb)
                        replace HRo := Aside0.mk (Kd.C_below HRo.out hb)
                        replace HRn := Aside0.mk (Kd.C_below HRn.out hb)
                        replace HRp0 := Aside0.mk (Kd.C_below HRp0.out hb)
                        replace HRp1 := Aside0.mk (Kd.C_below HRp1.out hb)
                        replace KA := Aside0.mk (KA.out.below hb)
                        replace KB := Aside0.mk (KB.out.below hb)
                        replace KP := Aside0.mk (KP.out.below hb)
                        clear hb
                        obtain ⟨Lq0, hLq0⟩ : ∃ L, bothL (fun a b => a || b) lx0 lx1 ly0 ly1 lx0 ly0 = L := ⟨_, rfl⟩
                        rw [hLq0] at ho0
                        obtain ⟨Aq0, cq0, rfl, hcq0, hrq0⟩ := ho0.slice
                        have HRq0 := Aside0.mk hrq0
                        have HCq0 := Aside0.mk hcq0
                        clear ho0 hrq0 hcq0
                        obtain ⟨Lq1, hLq1⟩ : ∃ L, bothL (fun a b => a || b) lx0 lx1 ly0 ly1 lx1 ly1 = L := ⟨_, rfl⟩
                        rw [hLq1] at ho1
                        obtain ⟨Aq1, cq1, rfl, hcq1, hrq1⟩ := ho1.slice
                        have HRq1 := Aside0.mk hrq1
                        have HCq1 := Aside0.mk hcq1
                        clear ho1 hrq1 hcq1
                        have HLq0 := Aside0.mk hLq0
                        clear hLq0
                        have HLq1 := Aside0.mk hLq1
                        clear hLq1
                        obtain ⟨w10, hW10⟩ : ∃ x, w9.alloc (.cells #[.slice Aq0 Lq0.length cq0, .slice Aq1 Lq1.length cq1] 29) = x := ⟨_, rfl⟩
                        have hb : Below w9.heap.size w9 w10 := by rw [← hW10]; exact below_alloc (Below.refl _ _) _
                        replace HB := Aside0.mk (below_step HB.out hb)
                        replace HRx0 := Aside0.mk (Kd.C_below HRx0.out hb)
                        replace HRx1 := Aside0.mk (Kd.C_below HRx1.out hb)
                        replace HRy0 := Aside0.mk (Kd.C_below HRy0.out hb)
                        replace HRy1 := Aside0.mk (Kd.C_below HRy1.out hb)
                        replace HRk := Aside0.mk (Kd.C_below HRk.out hb)
                        replace HRl := Aside0.mk (Kd.C_below HRl.out hb)
                        replace HRi := Aside0.mk (Kd.C_below HRi.out hb)
                        replace HRo := Aside0.mk (Kd.C_below HRo.out hb)
                        replace HRn := Aside0.mk (Kd.C_below HRn.out hb)
                        replace HRp0 := Aside0.mk (Kd.C_below HRp0.out hb)
                        replace HRp1 := Aside0.mk (Kd.C_below HRp1.out hb)
                        replace HRq0 := Aside0.mk (Kd.C_below HRq0.out hb)
                        replace HRq1 := Aside0.mk (Kd.C_below HRq1.out hb)
                        replace KA := Aside0.mk (KA.out.below hb)
                        replace KB := Aside0.mk (KB.out.below hb)
                        replace KP := Aside0.mk (KP.out.below hb)
                        clear hb
                        have KQ : Aside0 (Held w10 (w9.heap.size) (.slice Aq0 Lq0.length cq0) (.slice Aq1 Lq1.length cq1)) := ⟨by rw [← hW10]; exact Held.new _ _ _⟩
                        have hA0 := KA.out.c0
                        rw [← hW10] at hA0
                        have hA1 := KA.out.c1
                        rw [← hW10] at hA1
                        have AhW10 := Aside0.mk hW10
                        clear hW10
                        go_wp2_with fail
                        clear hA0 hA1
                        rw [AhW10.out]
                        clear AhW10
                        refine (Not_any Ax0 cx0 lx0 Ax1 cx1 lx1 300 _ HRx0.out HCx0.out HRx1.out HCx1.out).mono ?_
                        rintro e w11 ⟨v0, v1, rfl, ho0, ho1, hb⟩
                        replace HB := Aside0.mk (below_step HB.out hb)
                        replace HRx0 := Aside0.mk (Kd.C_below HRx0.out hb)
                        replace HRx1 := Aside0.mk (Kd.C_below HRx1.out hb)
                        replace HRy0 := Aside0.mk (Kd.C_below HRy0.out hb)
                        replace HRy1 := Aside0.mk (Kd.C_below HRy1.out hb)
                        replace HRk := Aside0.mk (Kd.C_below HRk.out hb)
                        replace HRl := Aside0.mk (Kd.C_below HRl.out hb)
                        replace HRi := Aside0.mk (Kd.C_below HRi.out hb)
                        replace HRo := Aside0.mk (Kd.C_below HRo.out hb)
                        replace HRn := Aside0.mk (Kd.C_below HRn.out hb)
                        replace HRp0 := Aside0.mk (Kd.C_below HRp0.out hb)
                        replace HRp1 := Aside0.mk (Kd.C_below HRp1.out hb)
                        replace HRq0 := Aside0.mk (Kd.C_below HRq0.out hb)
                        replace HRq1 := Aside0.mk (Kd.C_below HRq1.out hb)
                        replace KA := Aside0.mk (KA.out.below hb)
                        replace KB := Aside0.mk (KB.out.below hb)
                        replace KP := Aside0.mk (KP.out.below hb)
                        replace KQ := Aside0.mk (KQ.out.below hb)
                        clear hb
                        obtain ⟨Lc0, hLc0⟩ : ∃ L, notL lx0 lx1 300 lx1 = L := ⟨_, rfl⟩
                        rw [hLc0] at ho0
                        obtain ⟨Ac0, cc0, rfl, hcc0, hrc0⟩ := ho0.slice
                        have HRc0 := Aside0.mk hrc0
                        have HCc0 := Aside0.mk hcc0
                        clear ho0 hrc0 hcc0
                        obtain ⟨Lc1, hLc1⟩ : ∃ L, notL lx0 lx1 300 lx0 = L := ⟨_, rfl⟩
                        rw [hLc1] at ho1
                        obtain ⟨Ac1, cc1, rfl, hcc1, hrc1⟩ := ho1.slice
                        have HRc1 := Aside0.mk hrc1
                        have HCc1 := Aside0.mk hcc1
                        clear ho1 hrc1 hcc1
                        have HLc0 := Aside0.mk hLc0
                        clear hLc0
                        have HLc1 := Aside0.mk hLc1
                        clear hLc1
                        have HT : Aside0 (trueB Lp0 Lp1 Li = true ∧ trueB Lq0 Lq1 Lo = true ∧ trueB Lc0 Lc1 Ln = true) := ⟨by rw [← HLp0.out, ← HLp1.out, ← HLq0.out, ← HLq1.out, ← HLc0.out, ← HLc1.out, ← HLi.out, ← HLo.out, ← HLn.out]; exact true_law HB1.out HB2.out⟩
                        obtain ⟨w12, hW12⟩ : ∃ x, w11.alloc (.cells #[.slice Ac0 Lc0.length cc0, .slice Ac1 Lc1.length cc1] 29) = x := ⟨_, rfl⟩
                        have hb : Below w11.heap.size w11 w12 := by rw [← hW12]; exact below_alloc (Below.refl _ _) _
                        replace HB := Aside0.mk (below_step HB.out hb)
                        replace HRx0 := Aside0.mk (Kd.C_below HRx0.out hb)
                        replace HRx1 := Aside0.mk (Kd.C_below HRx1.out hb)
                        replace HRy0 := Aside0.mk (Kd.C_below HRy0.out hb)
                        replace HRy1 := Aside0.mk (Kd.C_below HRy1.out hb)
                        replace HRk := Aside0.mk (Kd.C_below HRk.out hb)
                        replace HRl := Aside0.mk (Kd.C_below HRl.out hb)
                        replace HRi := Aside0.mk (Kd.C_below HRi.out hb)
                        replace HRo := Aside0.mk (Kd.C_below HRo.out hb)
                        replace HRn := Aside0.mk (Kd.C_below HRn.out hb)
                        replace HRp0 := Aside0.mk (Kd.C_below HRp0.out hb)
                        replace HRp1 := Aside0.mk (Kd.C_below HRp1.out hb)
                        replace HRq0 := Aside0.mk (Kd.C_below HRq0.out hb)
                        replace HRq1 := Aside0.mk (Kd.C_below HRq1.out hb)
                        replace HRc0 := Aside0.mk (Kd.C_below HRc0.out hb)
                        replace HRc1 := Aside0.mk (Kd.C_below HRc1.out hb)
                        replace KA := Aside0.mk (KA.out.below hb)
                        replace KB := Aside0.mk (KB.out.below hb)
                        replace KP := Aside0.mk (KP.out.below hb)
                        replace KQ := Aside0.mk (KQ.out.below hb)
                        clear hb
                        have KC : Aside0 (Held w12 (w11.heap.size) (.slice Ac0 Lc0.length cc0) (.slice Ac1 Lc1.length cc1)) := ⟨by rw [← hW12]; exact Held.new _ _ _⟩
                        have hP0 := KP.out.c0
                        rw [← hW12] at hP0
                        have hP1 := KP.out.c1
                        rw [← hW12] at hP1
                        have AhW12 := Aside0.mk hW12
                        clear hW12
                        go_wp2_with fail
                        clear hP0 hP1
                        rw [AhW12.out]
                        clear AhW12
                        refine (True_any Ap0 cp0 Lp0 Ap1 cp1 Lp1 Ai ci Li _ HRp0.out HCp0.out HRp1.out HCp1.out HRi.out HCi.out).mono ?_
                        rintro e w13 ⟨rfl, hb⟩
                        replace HB := Aside0.mk (below_step HB.out hb)
                        replace HRx0 := Aside0.mk (Kd.C_below HRx0.out hb)
                        replace HRx1 := Aside0.mk (Kd.C_below HRx1.out hb)
                        replace HRy0 := Aside0.mk (Kd.C_below HRy0.out hb)
                        replace HRy1 := Aside0.mk (Kd.C_below HRy1.out hb)
                        replace HRk := Aside0.mk (Kd.C_below HRk.out hb)
                        replace HRl := Aside0.mk (Kd.C_below HRl.out hb)
                        replace HRi := Aside0.mk (Kd.C_below HRi.out hb)
                        replace HRo := Aside0.mk (Kd.C_below HRo.out hb)
                        replace HRn := Aside0.mk (Kd.C_below HRn.out hb)
                        replace HRp0 := Aside0.mk (Kd.C_below HRp0.out hb)
                        replace HRp1 := Aside0.mk (Kd.C_below HRp1.out hb)
                        replace HRq0 := Aside0.mk (Kd.C_below HRq0.out hb)
                        replace HRq1 := Aside0.mk (Kd.C_below HRq1.out hb)
                        replace HRc0 := Aside0.mk (Kd.C_below HRc0.out hb)
                        replace HRc1 := Aside0.mk (Kd.C_below HRc1.out hb)
                        replace KA := Aside0.mk (KA.out.below hb)
                        replace KB := Aside0.mk (KB.out.below hb)
                        replace KP := Aside0.mk (KP.out.below hb)
                        replace KQ := Aside0.mk (KQ.out.below hb)
                        replace KC := Aside0.mk (KC.out.below hb)
                        clear hb
                        rw [HT.out.1]
                        have hQ0 := KQ.out.c0
                        have hQ1 := KQ.out.c1
                        go_wp2_with fail
                        clear hQ0 hQ1
                        refine (True_any Aq0 cq0 Lq0 Aq1 cq1 Lq1 Ao co Lo _ HRq0.out HCq0.out HRq1.out HCq1.out HRo.out HCo.out).mono ?_
                        rintro e w14 ⟨rfl, hb⟩
                        replace HB := Aside0.mk (below_step HB.out hb)
                        replace HRx0 := Aside0.mk (Kd.C_below HRx0.out hb)
                        replace HRx1 := Aside0.mk (Kd.C_below HRx1.out hb)
                        replace HRy0 := Aside0.mk (Kd.C_below HRy0.out hb)
                        replace HRy1 := Aside0.mk (Kd.C_below HRy1.out hb)
                        replace HRk := Aside0.mk (Kd.C_below HRk.out hb)
                        replace HRl := Aside0.mk (Kd.C_below HRl.out hb)
                        replace HRi := Aside0.mk (Kd.C_below HRi.out hb)
                        replace HRo := Aside0.mk (Kd.C_below HRo.out hb)
                        replace HRn := Aside0.mk (Kd.C_below HRn.out hb)
                        replace HRp0 := Aside0.mk (Kd.C_below HRp0.out hb)
                        replace HRp1 := Aside0.mk (Kd.C_below HRp1.out hb)
                        replace HRq0 := Aside0.mk (Kd.C_below HRq0.out hb)
                        replace HRq1 := Aside0.mk (Kd.C_below HRq1.out hb)
                        replace HRc0 := Aside0.mk (Kd.C_below HRc0.out hb)
                        replace HRc1 := Aside0.mk (Kd.C_below HRc1.out hb)
                        replace KA := Aside0.mk (KA.out.below hb)
                        replace KB := Aside0.mk (KB.out.below hb)
                        replace KP := Aside0.mk (KP.out.below hb)
                        replace KQ := Aside0.mk (KQ.out.below hb)
                        replace KC := Aside0.mk (KC.out.below hb)
                        clear hb
                        rw [HT.out.2.1]
                        have hC0 := KC.out.c0
                        have hC1 := KC.out.c1
                        go_wp2_with fail
                        clear hC0 hC1
                        refine (True_any Ac0 cc0 Lc0 Ac1 cc1 Lc1 An cn Ln _ HRc0.out HCc0.out HRc1.out HCc1.out HRn.out HCn.out).mono ?_
                        rintro e w15 ⟨rfl, hb⟩
                        replace HB := Aside0.mk (below_step HB.out hb)
                        replace HRx0 := Aside0.mk (Kd.C_below HRx0.out hb)
                        replace HRx1 := Aside0.mk (Kd.C_below HRx1.out hb)
                        replace HRy0 := Aside0.mk (Kd.C_below HRy0.out hb)
                        replace HRy1 := Aside0.mk (Kd.C_below HRy1.out hb)
                        replace HRk := Aside0.mk (Kd.C_below HRk.out hb)
                        replace HRl := Aside0.mk (Kd.C_below HRl.out hb)
                        replace HRi := Aside0.mk (Kd.C_below HRi.out hb)
                        replace HRo := Aside0.mk (Kd.C_below HRo.out hb)
                        replace HRn := Aside0.mk (Kd.C_below HRn.out hb)
                        replace HRp0 := Aside0.mk (Kd.C_below HRp0.out hb)
                        replace HRp1 := Aside0.mk (Kd.C_below HRp1.out hb)
                        replace HRq0 := Aside0.mk (Kd.C_below HRq0.out hb)
                        replace HRq1 := Aside0.mk (Kd.C_below HRq1.out hb)
                        replace HRc0 := Aside0.mk (Kd.C_below HRc0.out hb)
                        replace HRc1 := Aside0.mk (Kd.C_below HRc1.out hb)
                        replace KA := Aside0.mk (KA.out.below hb)
                        replace KB := Aside0.mk (KB.out.below hb)
                        replace KP := Aside0.mk (KP.out.below hb)
                        replace KQ := Aside0.mk (KQ.out.below hb)
                        replace KC := Aside0.mk (KC.out.below hb)
                        clear hb
                        rw [HT.out.2.2]
                        go_wp2_with fail
                        refine (known_any _).mono ?_
                        rintro e w16 ⟨rfl, hb⟩
                        replace HB := Aside0.mk (below_step HB.out hb)
                        replace HRx0 := Aside0.mk (Kd.C_below HRx0.out hb)
                        replace HRx1 := Aside0.mk (Kd.C_below HRx1.out hb)
                        replace HRy0 := Aside0.mk (Kd.C_below HRy0.out hb)
                        replace HRy1 := Aside0.mk (Kd.C_below HRy1.out hb)
                        replace HRk := Aside0.mk (Kd.C_below HRk.out hb)
                        replace HRl := Aside0.mk (Kd.C_below HRl.out hb)
                        replace HRi := Aside0.mk (Kd.C_below HRi.out hb)
                        replace HRo := Aside0.mk (Kd.C_below HRo.out hb)
                        replace HRn := Aside0.mk (Kd.C_below HRn.out hb)
                        replace HRp0 := Aside0.mk (Kd.C_below HRp0.out hb)
                        replace HRp1 := Aside0.mk (Kd.C_below HRp1.out hb)
                        replace HRq0 := Aside0.mk (Kd.C_below HRq0.out hb)
                        replace HRq1 := Aside0.mk (Kd.C_below HRq1.out hb)
                        replace HRc0 := Aside0.mk (Kd.C_below HRc0.out hb)
                        replace HRc1 := Aside0.mk (Kd.C_below HRc1.out hb)
                        replace KA := Aside0.mk (KA.out.below hb)
                        replace KB := Aside0.mk (KB.out.below hb)
                        replace KP := Aside0.mk (KP.out.below hb)
                        replace KQ := Aside0.mk (KQ.out.below hb)
                        replace KC := Aside0.mk (KC.out.below hb)
                        clear hb
                        go_wp2_with fail
                        go_ret
                        exact ⟨rfl, HB.out⟩
              ·
                have q1 : (e2 != 0) = true := bne_iff_ne.2 h2
                have q2 : (e2 == 0) = false := beq_eq_false_iff_ne.2 h2
                clear h2
                go_wp2_with fail
                refine (known_any _).mono ?_
                rintro e w7 ⟨rfl, hb⟩
                replace HB := Aside0.mk (below_step HB.out hb)
                replace HRx0 := Aside0.mk (Kd.C_below HRx0.out hb)
                replace HRx1 := Aside0.mk (Kd.C_below HRx1.out hb)
                replace HRy0 := Aside0.mk (Kd.C_below HRy0.out hb)
                replace HRy1 := Aside0.mk (Kd.C_below HRy1.out hb)
                replace HRk := Aside0.mk (Kd.C_below HRk.out hb)
                replace HRl := Aside0.mk (Kd.C_below HRl.out hb)
                replace KA := Aside0.mk (KA.out.below hb)
                replace KB := Aside0.mk (KB.out.below hb)
                clear hb
                go_wp2_with fail
                go_ret
                exact ⟨rfl, HB.out⟩
            ·
              have q1 : (e1 != 0) = true := bne_iff_ne.2 h1
              have q2 : (e1 == 0) = false := beq_eq_false_iff_ne.2 h1
              clear h1
              go_wp2_with fail
              refine (known_any _).mono ?_
              rintro e w7 ⟨rfl, hb⟩
              replace HB := Aside0.mk (below_step HB.out hb)
              replace HRx0 := Aside0.mk (Kd.C_below HRx0.out hb)
              replace HRx1 := Aside0.mk (Kd.C_below HRx1.out hb)
              replace HRy0 := Aside0.mk (Kd.C_below HRy0.out hb)
              replace HRy1 := Aside0.mk (Kd.C_below HRy1.out hb)
              replace HRk := Aside0.mk (Kd.C_below HRk.out hb)
              replace HRl := Aside0.mk (Kd.C_below HRl.out hb)
              replace KA := Aside0.mk (KA.out.below hb)
              replace KB := Aside0.mk (KB.out.below hb)
              clear hb
              go_wp2_with fail
              go_ret
              exact ⟨rfl, HB.out⟩
      ·
        go_wp2_with fail
        refine (known_any _).mono ?_
        rintro e w4 ⟨rfl, hb⟩
        replace HB := Aside0.mk (below_step HB.out hb)
        replace HRx0 := Aside0.mk (Kd.C_below HRx0.out hb)
        replace HRx1 := Aside0.mk (Kd.C_below HRx1.out hb)
        replace HRy0 := Aside0.mk (Kd.C_below HRy0.out hb)
        replace HRy1 := Aside0.mk (Kd.C_below HRy1.out hb)
        replace HRk := Aside0.mk (Kd.C_below HRk.out hb)
        replace HRl := Aside0.mk (Kd.C_below HRl.out hb)
        replace KA := Aside0.mk (KA.out.below hb)
        replace KB := Aside0.mk (KB.out.below hb)
        clear hb
        go_wp2_with fail
        go_ret
        exact ⟨rfl, HB.out⟩
    ·
      go_wp2_with fail
      refine (known_any _).mono ?_
      rintro e w3 ⟨rfl, hb⟩
      replace HB := Aside0.mk (below_step HB.out hb)
      replace HRx0 := Aside0.mk (Kd.C_below HRx0.out hb)
      replace HRx1 := Aside0.mk (Kd.C_below HRx1.out hb)
      replace HRy0 := Aside0.mk (Kd.C_below HRy0.out hb)
      replace HRy1 := Aside0.mk (Kd.C_below HRy1.out hb)
      replace HRk := Aside0.mk (Kd.C_below HRk.out hb)
      replace HRl := Aside0.mk (Kd.C_below HRl.out hb)
      replace KA := Aside0.mk (KA.out.below hb)
      replace KB := Aside0.mk (KB.out.below hb)
      clear hb
      go_wp2_with fail
      go_ret
      exact ⟨rfl, HB.out⟩
end Go.Proofs.Ytpbdlkbiiglkdaa

/- THE LAW BitsTrue: for every input it returns true, and its arguments read afterwards as they read before. No condition. (The frame is the kit's printed row, turned to a walk of my own.) -/
set_option linter.unusedVariables false
namespace Go.Proofs.Ytpbdlkbiiglkdaa.bitsTrue
open Go.ChangeShapes Go.WideShapes Go.ChangeAt Go.RowKit Go.Proofs.Ytpbdlkbiiglkdaa Go.Proofs.YtpbdlkbiiglkdaaW.PrintWords

set_option maxRecDepth 100000 in
theorem lifted (os : Os) (started : os.Started) (H : Type) (enc : TypeId × Value → H) :
    ReturnsInHanded {} Try.checked os 8 .any (Rows.bitsTrueSpec.pre6 enc Try.prog Try.f8 Rows.bitsTrueRow.domain false) (Rows.bitsTrueSpec.post enc Try.prog Try.f8 false true false false) := by
  refine returnsInHanded_of_change (C := Try.checked) own started (by kernel_rfl) Try.func8
    (ChangeSpec.witness6 (enc := enc) (C := Try.checked) false ⟨#[], #[.agg #[.slice none 0 0, .slice none 0 0, .slice none 0 0, .slice none 0 0], .slice none 0 0, .slice none 0 0], []⟩ 8 (by kernel_rfl) (by kernel_rfl) (by kernel_rfl) (by kernel_rfl)) ?_
  intro W base args ds gs before hval0 hW hcnd _
  have hval : ∀ (j : Nat) t v, Try.f8.params[j]? = some t → args[j]? = some v → Value.okWide Try.prog W .any base t v := hval0
  have hW' := hW
  obtain ⟨p, q, hA0, hV, rfl, hfz, hnd⟩ := hW
  have hA : DataW.TrodAll enc Try.prog W 0 (fun _ => true) true Try.f8.params.toList args.toList ds p := hA0
  rw [Try.params8] at hA hval
  obtain ⟨v0, vs0, d0, ds0, p0, q0, hargs, rfl, rfl, h0, r0⟩ := trodAll_cons hA
  obtain ⟨v1, vs1, d1, ds1, p1, q1, rfl, rfl, rfl, h1, r1⟩ := trodAll_cons r0
  obtain ⟨v2, vs2, d2, ds2, p2, q2, rfl, rfl, rfl, h2, r2⟩ := trodAll_cons r1
  obtain ⟨rfl, rfl, rfl⟩ := trodAll_nil r2
  obtain rfl : args = #[v0, v1, v2] := by cases args; simp_all
  obtain ⟨rfl, rfl⟩ := trodVars_none hV
  have k0 := h0
  have lt0 := lt_trod k0
  obtain ⟨a0_0, c0_0, l0_0, z0_0, w0_0, a0_1, c0_1, l0_1, z0_1, w0_1, a0_2, c0_2, l0_2, z0_2, w0_2, a0_3, c0_3, l0_3, z0_3, w0_3, rfl⟩ := open_bits2 (hval 0 44 v0 rfl rfl) h0
  have k1 := h1
  have lt1 := lt_trod k1
  obtain ⟨a1, c1, l1, rfl, w1, _, z1, y1⟩ := came_arg (k := .i64) Try.underlying22 Try.underlying3 (by kernel_rfl) (hval 1 22 v1 rfl rfl) h1
  have k2 := h2
  have lt2 := lt_trod k2
  obtain ⟨a2, c2, l2, rfl, w2, _, z2, y2⟩ := came_arg (k := .i64) Try.underlying22 Try.underlying3 (by kernel_rfl) (hval 2 22 v2 rfl rfl) h2
  clear hA0 hval0
  refine (BitsTrue_any a0_0 c0_0 l0_0 a0_1 c0_1 l0_1 a0_2 c0_2 l0_2 a0_3 c0_3 l0_3 a1 c1 l1 a2 c2 l2 W z0_0 w0_0 z0_1 w0_1 z0_2 w0_2 z0_3 w0_3 z1 w1 z2 w2).mono fun e W' ⟨he, bel⟩ => ?_
  subst he
  exact ⟨_, rfl, _, _, _, [], _, [], hW', trodAll_mk1 (shut_bool Try.underlying4 _), (trodAll_cons_mk (Below.trod laidOut (by kernel_rfl) (of_decide_eq_true (by kernel_rfl)) k0 bel lt0) (trodAll_cons_mk (Below.trod laidOut (by kernel_rfl) (of_decide_eq_true (by kernel_rfl)) k1 bel lt1) (trodAll_cons_mk (Below.trod laidOut (by kernel_rfl) (of_decide_eq_true (by kernel_rfl)) k2 bel lt2) trodAll_mk0))), rfl, bel.frame _, fun h => by cases h⟩
theorem over : Rows.bitsTrueRow.holds Try.pinned (OpenSpec.ofChange Rows.bitsTrueSpec) :=
  OpenClaim.holds_of_wide 8 Try.f8 rfl rfl rfl rfl rfl rfl rfl ⟨rfl, rfl, rfl, rfl, rfl⟩ rfl rfl rfl rfl rfl (by kernel_rfl) Try.func8 (by kernel_rfl)
    (of_decide_eq_true (by kernel_rfl)) (by unfold Func.isWrapper; first | (rw [if_pos (by decide +kernel)]; kernel_rfl) | (rw [if_neg (by decide +kernel)]; exact ⟨rfl, rfl⟩))
    (fun os started H enc _ => lifted os started H enc)
end Go.Proofs.Ytpbdlkbiiglkdaa.bitsTrue
namespace Go.Proofs.Ytpbdlkbiiglkdaa
theorem bitsTrue_holds : Rows.BitsTrueSaid := bitsTrue.over
#print axioms bitsTrue_holds
end Go.Proofs.Ytpbdlkbiiglkdaa

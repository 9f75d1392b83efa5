/- What the reference answers: Validate, And, Or, Not, Any, True, Doubt. -/
import Derived.Test.YtpbdlkbiiglkdaaK
set_option linter.unusedVariables false
set_option linter.unusedSimpArgs false
namespace Go.Proofs.Ytpbdlkbiiglkdaa
open Go.RowKit Go.Proofs.YtpbdlkbiiglkdaaW.PrintWords Go.Proofs.YtpbdlkbiiglkdaaW.PrintLast Go.Proofs.YtpbdlkbiiglkdaaW.PrintMore Go.Proofs.Cab

theorem if_congr' {a b : Prop} [Decidable a] [Decidable b] (h : a ↔ b) (x y : Int) : (if a then x else y) = (if b then x else y) := by
  by_cases ha : a
  · rw [if_pos ha, if_pos (h.1 ha)]
  · rw [if_neg ha, if_neg fun hb => ha (h.2 hb)]
theorem filter_mem_nil {s m : List Int} : (s.filter fun x => !decide (x ∈ m)) = [] ↔ ∀ x ∈ s, x ∈ m := by
  rw [List.filter_eq_nil_iff]
  simp
theorem valR_l0 (s m : List Int) (hs : s.length ≤ 3000) (hm : m.length ≤ 3000) : ∀ (d i k : Nat), s.length - i = d → i ≤ s.length → d + 3001 < k →
    PAll.cabinetryref12_Validate.l0 k (i : Int) s m = some (if ∀ x ∈ s.drop i, x ∈ m then 0 else 1)
  | 0, i, k + 1, hd, hi, hk => by
    obtain rfl : i = s.length := by omega
    rw [PAll.cabinetryref12_Validate.l0, if_neg (by omega), List.drop_length]
    simp
  | d + 1, i, k + 1, hd, hi, hk => by
    have hlt : i < s.length := by omega
    have hw : wrap64 ((i : Int) + 1) = ((i + 1 : Nat) : Int) := by rw [wrap_id (by omega) (by omega)]; omega
    rw [PAll.cabinetryref12_Validate.l0, if_pos (by omega), if_pos (by omega), rd_at s i hlt, hasR_f _ _ _ (by omega) (by omega), Option.bind_some, drop_at s i hlt]
    by_cases h : s[i] ∈ m
    · rw [if_pos (decide_eq_true h), hw, valR_l0 s m hs hm d (i + 1) k (by omega) (by omega) (by omega)]
      congr 1
      exact if_congr' ⟨fun e x hx => (List.mem_cons.1 hx).elim (fun h' => h' ▸ h) (e x), fun e x hx => e x (List.mem_cons_of_mem _ hx)⟩ _ _
    · rw [if_neg (by simpa using h), if_neg fun e => h (e _ List.mem_cons_self)]
theorem valR_f (s m : List Int) (k : Nat) (hs : s.length ≤ 3000) (hm : m.length ≤ 3000) (hk : 8000 ≤ k) : PAll.cabinetryref12_Validate.f k s m = some (valE s m) := by
  obtain ⟨k, rfl⟩ : ∃ j, k = j + 1 := ⟨k - 1, by omega⟩
  rw [PAll.cabinetryref12_Validate.f, isSetR_f s _ (by omega) (by omega), Option.bind_some, isSetR_f m _ (by omega) (by omega), Option.bind_some]
  unfold valE
  by_cases h1 : setB 300 s = true
  · rw [if_pos h1]
    by_cases h2 : setB 300 m = true
    · rw [h2, PAll.cabinetryref12_Validate.j0, if_neg (by decide)]
      have h := valR_l0 s m hs hm s.length 0 k (by omega) (by omega) (by omega)
      rw [show ((0 : Nat) : Int) = 0 from rfl, List.drop_zero] at h
      rw [h]
      congr 1
      refine if_congr' ?_ _ _
      rw [lessF_filter (set_asc h1) (set_asc h2), filter_mem_nil]
      exact ⟨fun e => ⟨h1, rfl, e⟩, fun e => e.2.2⟩
    · rw [PAll.cabinetryref12_Validate.j0, if_pos (by simpa using h2), if_neg fun e => h2 e.2.1]
  · rw [if_neg h1, PAll.cabinetryref12_Validate.j0, if_pos rfl, if_neg fun e => h1 e.1]
theorem bothR_f (s m t n : List Int) (k : Nat) (hs : s.length ≤ 3000) (hm : m.length ≤ 3000) (ht : t.length ≤ 3000) (hn : n.length ≤ 3000) (hk : 8000 ≤ k) : PAll.cabinetryref12_both.f k s m t n = some (bothE s m t n) := by
  rw [PAll.cabinetryref12_both.f, valR_f s m k hs hm hk, Option.bind_some, valR_f t n k ht hn hk, Option.bind_some]
  unfold bothE
  split <;> rfl
theorem inBothR_l0 (l g : List Int) (hl : l.length ≤ 3000) (hg : g.length ≤ 3000) : ∀ (d i k : Nat) (out : List Int), l.length - i = d → i ≤ l.length → out.length ≤ i → d + 3001 < k →
    PAll.cabinetryref12_inBoth.l0 k l g out (i : Int) = some (out ++ (l.drop i).filter fun x => decide (x ∈ g))
  | 0, i, k + 1, out, hd, hi, ho, hk => by
    obtain rfl : i = l.length := by omega
    rw [PAll.cabinetryref12_inBoth.l0, if_neg (by omega), List.drop_length]
    simp
  | d + 1, i, k + 1, out, hd, hi, ho, hk => by
    have hlt : i < l.length := by omega
    have hw : wrap64 ((i : Int) + 1) = ((i + 1 : Nat) : Int) := by rw [wrap_id (by omega) (by omega)]; omega
    rw [PAll.cabinetryref12_inBoth.l0, if_pos (by omega), if_pos (by omega), rd_at l i hlt, hasR_f _ _ _ (by omega) (by omega), Option.bind_some, drop_at l i hlt, List.filter_cons, hw]
    by_cases h : l[i] ∈ g
    · rw [if_pos (decide_eq_true h), if_pos (by omega), if_pos (decide_eq_true h), inBothR_l0 l g hl hg d (i + 1) k _ (by omega) (by omega) (by rw [List.length_append, List.length_singleton]; omega) (by omega), List.append_assoc]
      rfl
    · rw [if_neg (by simpa using h), if_neg (by simpa using h), inBothR_l0 l g hl hg d (i + 1) k _ (by omega) (by omega) (by omega) (by omega)]
theorem inBothR_f (l g : List Int) (k : Nat) (hl : l.length ≤ 3000) (hg : g.length ≤ 3000) (hk : 8000 ≤ k) : PAll.cabinetryref12_inBoth.f k l g = some (l.filter fun x => decide (x ∈ g)) :=
  inBothR_l0 l g hl hg l.length 0 k [] (by omega) (by omega) (by simp) (by omega)
theorem lessR_l0 (l g : List Int) (hl : l.length ≤ 3000) (hg : g.length ≤ 3000) : ∀ (d i k : Nat) (out : List Int), l.length - i = d → i ≤ l.length → out.length ≤ i → d + 3001 < k →
    PAll.cabinetryref12_less.l0 k l g out (i : Int) = some (out ++ (l.drop i).filter fun x => !decide (x ∈ g))
  | 0, i, k + 1, out, hd, hi, ho, hk => by
    obtain rfl : i = l.length := by omega
    rw [PAll.cabinetryref12_less.l0, if_neg (by omega), List.drop_length]
    simp
  | d + 1, i, k + 1, out, hd, hi, ho, hk => by
    have hlt : i < l.length := by omega
    have hw : wrap64 ((i : Int) + 1) = ((i + 1 : Nat) : Int) := by rw [wrap_id (by omega) (by omega)]; omega
    rw [PAll.cabinetryref12_less.l0, if_pos (by omega), if_pos (by omega), rd_at l i hlt, hasR_f _ _ _ (by omega) (by omega), Option.bind_some, drop_at l i hlt, List.filter_cons, hw]
    by_cases h : l[i] ∈ g
    · rw [if_pos (decide_eq_true h), if_neg (by simpa using h), lessR_l0 l g hl hg d (i + 1) k _ (by omega) (by omega) (by omega) (by omega)]
    · rw [if_neg (by simpa using h), if_pos (by omega), if_pos (by simpa using h), lessR_l0 l g hl hg d (i + 1) k _ (by omega) (by omega) (by rw [List.length_append, List.length_singleton]; omega) (by omega), List.append_assoc]
      rfl
theorem lessR_f (l g : List Int) (k : Nat) (hl : l.length ≤ 3000) (hg : g.length ≤ 3000) (hk : 8000 ≤ k) : PAll.cabinetryref12_less.f k l g = some (l.filter fun x => !decide (x ∈ g)) :=
  lessR_l0 l g hl hg l.length 0 k [] (by omega) (by omega) (by simp) (by omega)

/-- The numbers from i on to n. -/
def fromTo (n : Int) : Nat → Int → List Int
  | 0, _ => []
  | d + 1, i => i :: fromTo n d (i + 1)
theorem fromTo_mem (n : Int) : ∀ (d : Nat) (i : Int), ∀ x, x ∈ fromTo n d i ↔ i ≤ x ∧ x < i + d
  | 0, i, x => ⟨fun h => absurd h (by simp [fromTo]), fun h => by omega⟩
  | d + 1, i, x => by
    rw [fromTo, List.mem_cons, fromTo_mem n d (i + 1) x]
    omega
theorem fromTo_asc (n : Int) : ∀ (d : Nat) (i : Int), (fromTo n d i).Pairwise (· < ·)
  | 0, i => List.Pairwise.nil
  | d + 1, i => List.pairwise_cons.2 ⟨fun x hx => by rw [fromTo_mem] at hx; omega, fromTo_asc n d (i + 1)⟩
theorem upTo_fromTo (n : Int) : upTo n = fromTo n n.toNat 1 := sorted_ext (upTo_asc n) (fromTo_asc _ _ _) fun z => by
  rw [upTo_mem, fromTo_mem]
  omega
theorem eitherR_l0 (l g : List Int) (hl : l.length ≤ 3000) (hg : g.length ≤ 3000) : ∀ (d : Nat) (i : Int) (k : Nat) (out : List Int), 300 + 1 - i = d → 1 ≤ i → out.length < i → d + 3001 < k →
    PAll.cabinetryref12_either.l0 k l g out i = some (out ++ (fromTo 300 d i).filter fun x => decide (x ∈ l) || decide (x ∈ g))
  | 0, i, k + 1, out, hd, hi, ho, hk => by
    rw [PAll.cabinetryref12_either.l0, if_neg (by omega)]
    simp [fromTo]
  | d + 1, i, k + 1, out, hd, hi, ho, hk => by
    have hw : wrap64 (i + 1) = i + 1 := wrap_id (by omega) (by omega)
    rw [PAll.cabinetryref12_either.l0, if_pos (by omega), hasR_f _ _ _ (by omega) (by omega), Option.bind_some, hw, fromTo, List.filter_cons]
    by_cases h : i ∈ l
    · rw [if_pos (decide_eq_true h), if_pos (by omega), if_pos (by simp [h]), eitherR_l0 l g hl hg d (i + 1) k _ (by omega) (by omega) (by rw [List.length_append, List.length_singleton]; omega) (by omega), List.append_assoc]
      rfl
    · rw [if_neg (by simpa using h), hasR_f _ _ _ (by omega) (by omega), Option.bind_some]
      by_cases h2 : i ∈ g
      · rw [if_pos (decide_eq_true h2), if_pos (by omega), if_pos (by simp [h2]), eitherR_l0 l g hl hg d (i + 1) k _ (by omega) (by omega) (by rw [List.length_append, List.length_singleton]; omega) (by omega), List.append_assoc]
        rfl
      · rw [if_neg (by simpa using h2), if_neg (by simp [h, h2]), eitherR_l0 l g hl hg d (i + 1) k _ (by omega) (by omega) (by omega) (by omega)]
theorem eitherR_f (l g : List Int) (k : Nat) (hl : l.length ≤ 3000) (hg : g.length ≤ 3000) (hk : 8000 ≤ k) : PAll.cabinetryref12_either.f k l g = some ((upTo 300).filter fun x => decide (x ∈ l) || decide (x ∈ g)) := by
  rw [upTo_fromTo]
  exact eitherR_l0 l g hl hg 300 1 k [] (by omega) (by omega) (by simp) (by omega)
theorem upToR_l0 (n : Int) (hn : n ≤ 300) : ∀ (d : Nat) (i : Int) (k : Nat) (out : List Int), n + 1 - i ≤ d → (d = 0 ∨ n + 1 - i = d) → 1 ≤ i → i ≤ 301 → out.length < i → d < k →
    PAll.cabinetryref12_upTo.l0 k n out i = some (out ++ fromTo n d i)
  | 0, i, k + 1, out, hd, hd2, hi, hi2, ho, hk => by
    rw [PAll.cabinetryref12_upTo.l0, if_neg (by omega)]
    simp [fromTo]
  | d + 1, i, k + 1, out, hd, hd2, hi, hi2, ho, hk => by
    have hw : wrap64 (i + 1) = i + 1 := wrap_id (by omega) (by omega)
    rw [PAll.cabinetryref12_upTo.l0, if_pos (by omega), if_pos (by omega), hw, fromTo, upToR_l0 n hn d (i + 1) k _ (by omega) (by omega) (by omega) (by omega) (by rw [List.length_append, List.length_singleton]; omega) (by omega), List.append_assoc]
    rfl
theorem upToR_f (n : Int) (k : Nat) (hn : n ≤ 300) (hk : 8000 ≤ k) : PAll.cabinetryref12_upTo.f k n = some (upTo n) := by
  rw [upTo_fromTo]
  exact upToR_l0 n hn n.toNat 1 k [] (by omega) (by omega) (by omega) (by omega) (by simp) (by omega)

/-- A set's last number is its greatest. -/
theorem set_last {l : List Int} (h : setB 300 l = true) (n : Int) (h0 : 0 ≤ n) (hl : 0 < l.length) : setB n l = decide (l[l.length - 1] ≤ n) := by
  have ha := set_asc h
  have hm := set_mem h
  have hle : ∀ x ∈ l, x ≤ l[l.length - 1] := fun x hx => by
    obtain ⟨i, hi, rfl⟩ := List.getElem_of_mem hx
    rcases Nat.lt_or_ge i (l.length - 1) with hlt | hge
    · exact Int.le_of_lt (List.pairwise_iff_getElem.1 ha i (l.length - 1) hi (by omega) hlt)
    · have : i = l.length - 1 := by omega
      subst this
      exact Int.le_refl _
  rw [Bool.eq_iff_iff, decide_eq_true_iff]
  constructor
  · intro e
    exact (set_mem e _ (List.getElem_mem (by omega))).2
  · intro e
    have key : ∀ (l : List Int) (p : Int), l.Pairwise (· < ·) → (∀ x ∈ l, p < x ∧ x ≤ n) → setFrom n p l = true := by
      intro l
      induction l with
      | nil => exact fun _ _ _ => rfl
      | cons x l ih =>
        intro p hp hx
        obtain ⟨h1, h2⟩ := List.pairwise_cons.1 hp
        simp only [setFrom, Bool.and_eq_true, decide_eq_true_eq]
        exact ⟨(hx x List.mem_cons_self).1, (hx x List.mem_cons_self).2, ih x h2 fun y hy => ⟨h1 y hy, (hx y (List.mem_cons_of_mem _ hy)).2⟩⟩
    exact key l 0 ha fun x hx => ⟨by have := hm x hx; omega, Int.le_trans (hle x hx) e⟩
theorem isBelowR_f (l : List Int) (n : Int) (hl : l.length ≤ 3000) (h : setB 300 l = true) : PAll.cabinetryref12_isBelow.f l n = some (countB n && setB n l) := by
  rw [PAll.cabinetryref12_isBelow.f]
  unfold countB
  by_cases h0 : 0 ≤ n
  · rw [if_pos h0, decide_eq_true h0]
    by_cases h1 : n ≤ 300
    · rw [if_pos h1, decide_eq_true h1]
      by_cases h2 : (l.length : Int) = 0
      · rw [if_pos h2]
        obtain rfl : l = [] := List.eq_nil_of_length_eq_zero (by omega)
        rfl
      · have hw : wrap64 ((l.length : Int) - 1) = ((l.length - 1 : Nat) : Int) := by rw [wrap_id (by omega) (by omega)]; omega
        rw [if_neg h2, hw, if_pos (by omega), if_pos (by omega), rd_at l _ (by omega), set_last h n h0 (by omega)]
        simp
    · rw [if_neg h1, decide_eq_false h1]
      rfl
  · rw [if_neg h0, decide_eq_false h0]
    rfl
end Go.Proofs.Ytpbdlkbiiglkdaa

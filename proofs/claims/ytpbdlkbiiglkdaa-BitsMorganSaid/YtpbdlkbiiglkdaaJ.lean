/- What the reference answers, in plain Lean: lists that are sets, in either form. -/
import Derived.Test.YtpbdlkbiiglkdaaI
set_option linter.unusedVariables false
set_option linter.unusedSimpArgs false
namespace Go.Proofs.Ytpbdlkbiiglkdaa
open Go.RowKit Go.Proofs.YtpbdlkbiiglkdaaW.PrintWords Go.Proofs.YtpbdlkbiiglkdaaW.PrintLast Go.Proofs.YtpbdlkbiiglkdaaW.PrintMore Go.Proofs.Cab

theorem isSetR_l0 (l : List Int) (hl : l.length ≤ 1000000) : ∀ (d i : Nat) (k : Nat) (p : Int), l.length - i = d → i ≤ l.length → d < k → 0 ≤ p → (i = 0 → p = 0) → (∀ (h : 0 < i) (h2 : i - 1 < l.length), p = l[i - 1]) →
    PAll.cabinetryref12_IsSet.l0 k l (i : Int) = some (setFrom 300 p (l.drop i))
  | 0, i, k + 1, p, hd, hi, hk, h0, hz, hp => by
    obtain rfl : i = l.length := by omega
    rw [PAll.cabinetryref12_IsSet.l0, if_neg (by omega), List.drop_length]
    rfl
  | d + 1, i, k + 1, p, hd, hi, hk, h0, hz, hp => by
    have hlt : i < l.length := by omega
    rw [PAll.cabinetryref12_IsSet.l0, if_pos (by omega), if_pos (by omega), rd_at l i hlt, drop_at l i hlt]
    obtain ⟨x, hx⟩ : ∃ x, l[i] = x := ⟨_, rfl⟩
    have ih := fun (q : Int) (h1 : 0 ≤ q) (h2 : q = x) => isSetR_l0 l hl d (i + 1) k q (by omega) (by omega) (by omega) h1 (by omega) (fun _ _ => by simpa [hx] using h2)
    rw [hx]
    have hw : wrap64 ((i : Int) + 1) = ((i + 1 : Nat) : Int) := by rw [wrap_id (by omega) (by omega)]; omega
    simp only [setFrom]
    by_cases h1 : x < 1
    · rw [if_pos h1]
      rw [decide_eq_false (by omega : ¬ p < x)]
      rfl
    · rw [if_neg h1]
      by_cases h2 : x > 300
      · rw [if_pos h2, decide_eq_false (by omega : ¬ x ≤ 300)]
        simp
      · rw [if_neg h2, decide_eq_true (by omega : x ≤ 300), hw]
        by_cases h3 : i = 0
        · rw [if_neg (by omega), ih x (by omega) rfl]
          obtain rfl := hz h3
          rw [decide_eq_true (by omega : (0 : Int) < x)]
          simp
        · have hw2 : wrap64 ((i : Int) - 1) = ((i - 1 : Nat) : Int) := by rw [wrap_id (by omega) (by omega)]; omega
          rw [if_pos (by omega), hw2, if_pos (by omega), if_pos (by omega), rd_at l (i - 1) (by omega), ← hp (by omega) (by omega)]
          by_cases h4 : x ≤ p
          · rw [if_pos h4, decide_eq_false (by omega : ¬ p < x)]
            rfl
          · rw [if_neg h4, decide_eq_true (by omega : p < x), ih x (by omega) rfl]
            simp
theorem isSetR_f (l : List Int) (k : Nat) (hl : l.length ≤ 1000000) (hk : l.length < k) : PAll.cabinetryref12_IsSet.f k l = some (setB 300 l) := by
  have := isSetR_l0 l hl l.length 0 k 0 (by omega) (by omega) hk (by omega) (fun _ => rfl) (fun h => absurd h (by omega))
  simpa [PAll.cabinetryref12_IsSet.f, setB] using this

theorem hasR_l0 (l : List Int) (n : Int) (hl : l.length ≤ 1000000) : ∀ (d i : Nat) (k : Nat), l.length - i = d → i ≤ l.length → d < k →
    PAll.cabinetryref12_Has.l0 k l n (i : Int) = some (decide (n ∈ l.drop i))
  | 0, i, k + 1, hd, hi, hk => by
    obtain rfl : i = l.length := by omega
    rw [PAll.cabinetryref12_Has.l0, if_neg (by omega), List.drop_length]
    simp
  | d + 1, i, k + 1, hd, hi, hk => by
    have hlt : i < l.length := by omega
    rw [PAll.cabinetryref12_Has.l0, if_pos (by omega), if_pos (by omega), rd_at l i hlt, drop_at l i hlt]
    by_cases h : l[i] = n
    · rw [if_pos h]
      exact congrArg some (decide_eq_true (by rw [h]; exact List.mem_cons_self)).symm
    · rw [if_neg h, wrap_id (by omega) (by omega), show (i : Int) + 1 = ((i + 1 : Nat) : Int) by omega, hasR_l0 l n hl d (i + 1) k (by omega) (by omega) (by omega)]
      exact congrArg some (decide_eq_decide.2 ⟨fun e => List.mem_cons_of_mem _ e, fun e => (List.mem_cons.1 e).resolve_left fun h' => h h'.symm⟩)
theorem hasR_f (l : List Int) (n : Int) (k : Nat) (hl : l.length ≤ 1000000) (hk : l.length < k) : PAll.cabinetryref12_Has.f k l n = some (decide (n ∈ l)) := by
  have := hasR_l0 l n hl l.length 0 k (by omega) (by omega) hk
  simpa [PAll.cabinetryref12_Has.f] using this

/-- Two ascending lists with the same members are one. -/
theorem sorted_ext : ∀ {l m : List Int}, l.Pairwise (· < ·) → m.Pairwise (· < ·) → (∀ z, z ∈ l ↔ z ∈ m) → l = m
  | [], [], _, _, _ => rfl
  | [], y :: m, _, _, h => absurd ((h y).2 List.mem_cons_self) (by simp)
  | x :: l, [], _, _, h => absurd ((h x).1 List.mem_cons_self) (by simp)
  | x :: l, y :: m, hl, hm, h => by
    have hl1 := (List.pairwise_cons.1 hl).1
    have hm1 := (List.pairwise_cons.1 hm).1
    have hxy : x = y := by
      rcases List.mem_cons.1 ((h x).1 List.mem_cons_self) with e | e
      · exact e
      · rcases List.mem_cons.1 ((h y).2 List.mem_cons_self) with e' | e'
        · exact e'.symm
        · have a := hm1 x e
          have b := hl1 y e'
          omega
    subst hxy
    rw [sorted_ext (List.pairwise_cons.1 hl).2 (List.pairwise_cons.1 hm).2 fun z => ?_]
    constructor
    · intro hz
      rcases List.mem_cons.1 ((h z).1 (List.mem_cons_of_mem _ hz)) with e | e
      · have := hl1 z hz; omega
      · exact e
    · intro hz
      rcases List.mem_cons.1 ((h z).2 (List.mem_cons_of_mem _ hz)) with e | e
      · have := hm1 z hz; omega
      · exact e

/-- The members of what is kept of two ascending lists; and it ascends. -/
theorem joinF_spec (f : Bool → Bool → Bool) (hf : f false false = false) : ∀ (n : Nat) (xs ys : List Int), xs.length + ys.length = n → xs.Pairwise (· < ·) → ys.Pairwise (· < ·) →
    (∀ z, z ∈ joinF f xs ys ↔ f (decide (z ∈ xs)) (decide (z ∈ ys)) = true) ∧ (joinF f xs ys).Pairwise (· < ·) := by
  have one : ∀ (b : Bool) (x z : Int), z ∈ (if b then [x] else []) ↔ b = true ∧ z = x := fun b x z => by cases b <;> simp
  have step : ∀ (b : Bool) (x : Int) (l : List Int), l.Pairwise (· < ·) → (∀ z ∈ l, x < z) → ((if b then [x] else []) ++ l).Pairwise (· < ·) := fun b x l h h2 => by
    cases b
    · simpa using h
    · simpa using ⟨h2, h⟩
  intro n
  induction n using Nat.strongRecOn with
  | _ n ih =>
    intro xs ys hn hx hy
    cases xs with
    | nil =>
      cases ys with
      | nil => exact ⟨fun z => by simp [joinF, hf], by simp [joinF]⟩
      | cons y ys =>
        obtain ⟨hy1, hy2⟩ := List.pairwise_cons.1 hy
        obtain ⟨i1, i2⟩ := ih (n - 1) (by simp at hn; omega) [] ys (by simp at hn ⊢; omega) hx hy2
        simp only [joinF]
        refine ⟨fun z => ?_, step _ _ _ i2 fun z hz => ?_⟩
        · rw [List.mem_append, one, i1]
          by_cases e : z = y
          · subst e
            have : z ∉ ys := fun h => by have := hy1 z h; omega
            simp [this, hf]
          · simp [e]
        · rcases joinF_mem f _ [] ys rfl z hz with h | h
          · cases h
          · exact hy1 z h
    | cons x xs =>
      obtain ⟨hx1, hx2⟩ := List.pairwise_cons.1 hx
      cases ys with
      | nil =>
        obtain ⟨i1, i2⟩ := ih (n - 1) (by simp at hn; omega) xs [] (by simp at hn ⊢; omega) hx2 hy
        simp only [joinF]
        refine ⟨fun z => ?_, step _ _ _ i2 fun z hz => ?_⟩
        · rw [List.mem_append, one, i1]
          by_cases e : z = x
          · subst e
            have : z ∉ xs := fun h => by have := hx1 z h; omega
            simp [this, hf]
          · simp [e]
        · rcases joinF_mem f _ xs [] rfl z hz with h | h
          · exact hx1 z h
          · cases h
      | cons y ys =>
        obtain ⟨hy1, hy2⟩ := List.pairwise_cons.1 hy
        rw [joinF]
        by_cases h1 : x < y
        · rw [if_pos h1]
          obtain ⟨i1, i2⟩ := ih (n - 1) (by simp at hn; omega) xs (y :: ys) (by simp at hn ⊢; omega) hx2 hy
          refine ⟨fun z => ?_, step _ _ _ i2 fun z hz => ?_⟩
          · rw [List.mem_append, one, i1]
            by_cases e : z = x
            · subst e
              have a : z ∉ xs := fun h => by have := hx1 z h; omega
              have b : z ∉ y :: ys := fun h => by
                rcases List.mem_cons.1 h with h | h
                · omega
                · have := hy1 z h; omega
              simp [a, b, hf]
            · simp [e]
          · rcases joinF_mem f _ xs (y :: ys) rfl z hz with h | h
            · exact hx1 z h
            · rcases List.mem_cons.1 h with h | h
              · omega
              · have := hy1 z h; omega
        · rw [if_neg h1]
          by_cases h2 : y < x
          · rw [if_pos h2]
            obtain ⟨i1, i2⟩ := ih (n - 1) (by simp at hn; omega) (x :: xs) ys (by simp at hn ⊢; omega) hx hy2
            refine ⟨fun z => ?_, step _ _ _ i2 fun z hz => ?_⟩
            · rw [List.mem_append, one, i1]
              by_cases e : z = y
              · subst e
                have a : z ∉ ys := fun h => by have := hy1 z h; omega
                have b : z ∉ x :: xs := fun h => by
                  rcases List.mem_cons.1 h with h | h
                  · omega
                  · have := hx1 z h; omega
                simp [a, b, hf]
              · simp [e]
            · rcases joinF_mem f _ (x :: xs) ys rfl z hz with h | h
              · rcases List.mem_cons.1 h with h | h
                · omega
                · have := hx1 z h; omega
              · exact hy1 z h
          · rw [if_neg h2]
            obtain rfl : x = y := by omega
            obtain ⟨i1, i2⟩ := ih (n - 2) (by simp at hn; omega) xs ys (by simp at hn ⊢; omega) hx2 hy2
            refine ⟨fun z => ?_, step _ _ _ i2 fun z hz => ?_⟩
            · rw [List.mem_append, one, i1]
              by_cases e : z = x
              · subst e
                have a : z ∉ ys := fun h => by have := hy1 z h; omega
                have b : z ∉ xs := fun h => by have := hx1 z h; omega
                simp [a, b, hf]
              · simp [e]
            · rcases joinF_mem f _ xs ys rfl z hz with h | h
              · exact hx1 z h
              · exact hy1 z h
theorem set_asc {l : List Int} {n : Int} (h : setB n l = true) : l.Pairwise (· < ·) := setFrom_pairwise h
theorem set_mem {l : List Int} {n : Int} (h : setB n l = true) : ∀ x ∈ l, 1 ≤ x ∧ x ≤ n := fun x hx => by
  have := setFrom_mem h x hx
  omega
theorem filter_asc {l : List Int} (p : Int → Bool) (h : l.Pairwise (· < ·)) : (l.filter p).Pairwise (· < ·) := h.filter p
theorem lessF_filter {l g : List Int} (hl : l.Pairwise (· < ·)) (hg : g.Pairwise (· < ·)) : lessF l g = l.filter fun x => !decide (x ∈ g) := by
  obtain ⟨h1, h2⟩ := joinF_spec (fun a b => a && !b) rfl _ l g rfl hl hg
  refine sorted_ext h2 (filter_asc _ hl) fun z => ?_
  refine (h1 z).trans ?_
  rw [List.mem_filter]
  simp
theorem bothF_filter {l g : List Int} (hl : l.Pairwise (· < ·)) (hg : g.Pairwise (· < ·)) : bothF l g = l.filter fun x => decide (x ∈ g) := by
  obtain ⟨h1, h2⟩ := joinF_spec (fun a b => a && b) rfl _ l g rfl hl hg
  refine sorted_ext h2 (filter_asc _ hl) fun z => ?_
  refine (h1 z).trans ?_
  rw [List.mem_filter]
  simp
theorem upTo_mem (n x : Int) : x ∈ upTo n ↔ 1 ≤ x ∧ x ≤ n := by
  unfold upTo
  rw [List.mem_map]
  constructor
  · rintro ⟨k, hk, rfl⟩
    rw [List.mem_range] at hk
    omega
  · rintro ⟨h1, h2⟩
    exact ⟨(x - 1).toNat, List.mem_range.2 (by omega), by omega⟩
theorem upTo_asc (n : Int) : (upTo n).Pairwise (· < ·) := by
  unfold upTo
  rw [List.pairwise_map]
  exact List.pairwise_lt_range.imp fun h => by omega
theorem anyF_filter {l g : List Int} (hl : setB 300 l = true) (hg : setB 300 g = true) : anyF l g = (upTo 300).filter fun x => decide (x ∈ l) || decide (x ∈ g) := by
  obtain ⟨h1, h2⟩ := joinF_spec (fun a b => a || b) rfl _ l g rfl (set_asc hl) (set_asc hg)
  refine sorted_ext h2 (filter_asc _ (upTo_asc _)) fun z => ?_
  refine (h1 z).trans ?_
  rw [List.mem_filter, upTo_mem]
  constructor
  · intro h
    refine ⟨?_, h⟩
    simp at h
    rcases h with h | h
    · exact set_mem hl z h
    · exact set_mem hg z h
  · exact fun h => h.2
end Go.Proofs.Ytpbdlkbiiglkdaa

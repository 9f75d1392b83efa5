/- THE LAW BitsMaps: for every input it returns true, and its arguments read afterwards as they read before. No condition. (The frame is the kit's printed row, turned to a walk of my own.) -/
import Derived.Test.YtpbdlkbiiglkdaaMMaps0
import Derived.Lib.Bytes
import Derived.WideShapes
import Derived.ChangeKeysEq
import Derived.BigQuiet

/- What the reference answers, in plain Lean: lists that are sets, in either form. -/
set_option linter.unusedVariables false
set_option linter.unusedSimpArgs false
namespace Go.Proofs.Ytpbdlkbiiglkdaa
open Go.RowKit Go.Proofs.YtpbdlkbiiglkdaaW.PrintWords Go.Proofs.YtpbdlkbiiglkdaaW.PrintLast Go.Proofs.YtpbdlkbiiglkdaaW.PrintMore Go.Proofs.Cab

theorem isSetR_l0 (l : List Int) (hl : l.length ≤ 1000000) : ∀ (d i : Nat) (k : Nat) (p : Int), l.length - i = d → i ≤ l.length → d < k → 0 ≤ p → (i = 0 → p = 0) → (∀ (h : 0 < i) (h2 : i - 1 < l.length), p = l[i - 1]) →
    PAll.cabinetryref12_IsSet.l0 k l (i : Int) = some (setFrom 300 p (l.drop i))
  | 0, i, k + 1, p, hd, hi, hk, h0, hz, hp => by
    obtain rfl : i = l.length := by omega
    rw [PAll.cabinetryref12_IsSet.l0, if_neg (by omega), List.drop_length]
    rfl
  | d + 1, i, k + 1, p, hd, hi, hk, h0, hz, hp => by
    have hlt : i < l.length := by omega
    rw [PAll.cabinetryref12_IsSet.l0, if_pos (by omega), if_pos (by omega), rd_at l i hlt, drop_at l i hlt]
    obtain ⟨x, hx⟩ : ∃ x, l[i] = x := ⟨_, rfl⟩
    have ih := fun (q : Int) (h1 : 0 ≤ q) (h2 : q = x) => isSetR_l0 l hl d (i + 1) k q (by omega) (by omega) (by omega) h1 (by omega) (fun _ _ => by simpa [hx] using h2)
    rw [hx]
    have hw : wrap64 ((i : Int) + 1) = ((i + 1 : Nat) : Int) := by rw [wrap_id (by omega) (by omega)]; omega
    simp only [setFrom]
    by_cases h1 : x < 1
    · rw [if_pos h1]
      rw [decide_eq_false (by omega : ¬ p < x)]
      rfl
    · rw [if_neg h1]
      by_cases h2 : x > 300
      · rw [if_pos h2, decide_eq_false (by omega : ¬ x ≤ 300)]
        simp
      · rw [if_neg h2, decide_eq_true (by omega : x ≤ 300), hw]
        by_cases h3 : i = 0
        · rw [if_neg (by omega), ih x (by omega) rfl]
          obtain rfl := hz h3
          rw [decide_eq_true (by omega : (0 : Int) < x)]
          simp
        · have hw2 : wrap64 ((i : Int) - 1) = ((i - 1 : Nat) : Int) := by rw [wrap_id (by omega) (by omega)]; omega
          rw [if_pos (by omega), hw2, if_pos (by omega), if_pos (by omega), rd_at l (i - 1) (by omega), ← hp (by omega) (by omega)]
          by_cases h4 : x ≤ p
          · rw [if_pos h4, decide_eq_false (by omega : ¬ p < x)]
            rfl
          · rw [if_neg h4, decide_eq_true (by omega : p < x), ih x (by omega) rfl]
            simp
theorem isSetR_f (l : List Int) (k : Nat) (hl : l.length ≤ 1000000) (hk : l.length < k) : PAll.cabinetryref12_IsSet.f k l = some (setB 300 l) := by
  have := isSetR_l0 l hl l.length 0 k 0 (by omega) (by omega) hk (by omega) (fun _ => rfl) (fun h => absurd h (by omega))
  simpa [PAll.cabinetryref12_IsSet.f, setB] using this

theorem hasR_l0 (l : List Int) (n : Int) (hl : l.length ≤ 1000000) : ∀ (d i : Nat) (k : Nat), l.length - i = d → i ≤ l.length → d < k →
    PAll.cabinetryref12_Has.l0 k l n (i : Int) = some (decide (n ∈ l.drop i))
  | 0, i, k + 1, hd, hi, hk => by
    obtain rfl : i = l.length := by omega
    rw [PAll.cabinetryref12_Has.l0, if_neg (by omega), List.drop_length]
    simp
  | d + 1, i, k + 1, hd, hi, hk => by
    have hlt : i < l.length := by omega
    rw [PAll.cabinetryref12_Has.l0, if_pos (by omega), if_pos (by omega), rd_at l i hlt, drop_at l i hlt]
    by_cases h : l[i] = n
    · rw [if_pos h]
      exact congrArg some (decide_eq_true (by rw [h]; exact List.mem_cons_self)).symm
    · rw [if_neg h, wrap_id (by omega) (by omega), show (i : Int) + 1 = ((i + 1 : Nat) : Int) by omega, hasR_l0 l n hl d (i + 1) k (by omega) (by omega) (by omega)]
      exact congrArg some (decide_eq_decide.2 ⟨fun e => List.mem_cons_of_mem _ e, fun e => (List.mem_cons.1 e).resolve_left fun h' => h h'.symm⟩)
theorem hasR_f (l : List Int) (n : Int) (k : Nat) (hl : l.length ≤ 1000000) (hk : l.length < k) : PAll.cabinetryref12_Has.f k l n = some (decide (n ∈ l)) := by
  have := hasR_l0 l n hl l.length 0 k (by omega) (by omega) hk
  simpa [PAll.cabinetryref12_Has.f] using this

/-- Two ascending lists with the same members are one. -/
theorem sorted_ext : ∀ {l m : List Int}, l.Pairwise (· < ·) → m.Pairwise (· < ·) → (∀ z, z ∈ l ↔ z ∈ m) → l = m
  | [], [], _, _, _ => rfl
  | [], y :: m, _, _, h => absurd ((h y).2 List.mem_cons_self) (by simp)
  | x :: l, [], _, _, h => absurd ((h x).1 List.mem_cons_self) (by simp)
  | x :: l, y :: m, hl, hm, h => by
    have hl1 := (List.pairwise_cons.1 hl).1
    have hm1 := (List.pairwise_cons.1 hm).1
    have hxy : x = y := by
      rcases List.mem_cons.1 ((h x).1 List.mem_cons_self) with e | e
      · exact e
      · rcases List.mem_cons.1 ((h y).2 List.mem_cons_self) with e' | e'
        · exact e'.symm
        · have a := hm1 x e
          have b := hl1 y e'
          omega
    subst hxy
    rw [sorted_ext (List.pairwise_cons.1 hl).2 (List.pairwise_cons.1 hm).2 fun z => ?_]
    constructor
    · intro hz
      rcases List.mem_cons.1 ((h z).1 (List.mem_cons_of_mem _ hz)) with e | e
      · have := hl1 z hz; omega
      · exact e
    · intro hz
      rcases List.mem_cons.1 ((h z).2 (List.mem_cons_of_mem _ hz)) with e | e
      · have := hm1 z hz; omega
      · exact e

/-- The members of what is kept of two ascending lists; and it ascends. -/
theorem joinF_spec (f : Bool → Bool → Bool) (hf : f false false = false) : ∀ (n : Nat) (xs ys : List Int), xs.length + ys.length = n → xs.Pairwise (· < ·) → ys.Pairwise (· < ·) →
    (∀ z, z ∈ joinF f xs ys ↔ f (decide (z ∈ xs)) (decide (z ∈ ys)) = true) ∧ (joinF f xs ys).Pairwise (· < ·) := by
  have one : ∀ (b : Bool) (x z : Int), z ∈ (if b then [x] else []) ↔ b = true ∧ z = x := fun b x z => by cases b <;> simp
  have step : ∀ (b : Bool) (x : Int) (l : List Int), l.Pairwise (· < ·) → (∀ z ∈ l, x < z) → ((if b then [x] else []) ++ l).Pairwise (· < ·) := fun b x l h h2 => by
    cases b
    · simpa using h
    · simpa using ⟨h2, h⟩
  intro n
  induction n using Nat.strongRecOn with
  | _ n ih =>
    intro xs ys hn hx hy
    cases xs with
    | nil =>
      cases ys with
      | nil => exact ⟨fun z => by simp [joinF, hf], by simp [joinF]⟩
      | cons y ys =>
        obtain ⟨hy1, hy2⟩ := List.pairwise_cons.1 hy
        obtain ⟨i1, i2⟩ := ih (n - 1) (by simp at hn; omega) [] ys (by simp at hn ⊢; omega) hx hy2
        simp only [joinF]
        refine ⟨fun z => ?_, step _ _ _ i2 fun z hz => ?_⟩
        · rw [List.mem_append, one, i1]
          by_cases e : z = y
          · subst e
            have : z ∉ ys := fun h => by have := hy1 z h; omega
            simp [this, hf]
          · simp [e]
        · rcases joinF_mem f _ [] ys rfl z hz with h | h
          · cases h
          · exact hy1 z h
    | cons x xs =>
      obtain ⟨hx1, hx2⟩ := List.pairwise_cons.1 hx
      cases ys with
      | nil =>
        obtain ⟨i1, i2⟩ := ih (n - 1) (by simp at hn; omega) xs [] (by simp at hn ⊢; omega) hx2 hy
        simp only [joinF]
        refine ⟨fun z => ?_, step _ _ _ i2 fun z hz => ?_⟩
        · rw [List.mem_append, one, i1]
          by_cases e : z = x
          · subst e
            have : z ∉ xs := fun h => by have := hx1 z h; omega
            simp [this, hf]
          · simp [e]
        · rcases joinF_mem f _ xs [] rfl z hz with h | h
          · exact hx1 z h
          · cases h
      | cons y ys =>
        obtain ⟨hy1, hy2⟩ := List.pairwise_cons.1 hy
        rw [joinF]
        by_cases h1 : x < y
        · rw [if_pos h1]
          obtain ⟨i1, i2⟩ := ih (n - 1) (by simp at hn; omega) xs (y :: ys) (by simp at hn ⊢; omega) hx2 hy
          refine ⟨fun z => ?_, step _ _ _ i2 fun z hz => ?_⟩
          · rw [List.mem_append, one, i1]
            by_cases e : z = x
            · subst e
              have a : z ∉ xs := fun h => by have := hx1 z h; omega
              have b : z ∉ y :: ys := fun h => by
                rcases List.mem_cons.1 h with h | h
                · omega
                · have := hy1 z h; omega
              simp [a, b, hf]
            · simp [e]
          · rcases joinF_mem f _ xs (y :: ys) rfl z hz with h | h
            · exact hx1 z h
            · rcases List.mem_cons.1 h with h | h
              · omega
              · have := hy1 z h; omega
        · rw [if_neg h1]
          by_cases h2 : y < x
          · rw [if_pos h2]
            obtain ⟨i1, i2⟩ := ih (n - 1) (by simp at hn; omega) (x :: xs) ys (by simp at hn ⊢; omega) hx hy2
            refine ⟨fun z => ?_, step _ _ _ i2 fun z hz => ?_⟩
            · rw [List.mem_append, one, i1]
              by_cases e : z = y
              · subst e
                have a : z ∉ ys := fun h => by have := hy1 z h; omega
                have b : z ∉ x :: xs := fun h => by
                  rcases List.mem_cons.1 h with h | h
                  · omega
                  · have := hx1 z h; omega
                simp [a, b, hf]
              · simp [e]
            · rcases joinF_mem f _ (x :: xs) ys rfl z hz with h | h
              · rcases List.mem_cons.1 h with h | h
                · omega
                · have := hx1 z h; omega
              · exact hy1 z h
          · rw [if_neg h2]
            obtain rfl : x = y := by omega
            obtain ⟨i1, i2⟩ := ih (n - 2) (by simp at hn; omega) xs ys (by simp at hn ⊢; omega) hx2 hy2
            refine ⟨fun z => ?_, step _ _ _ i2 fun z hz => ?_⟩
            · rw [List.mem_append, one, i1]
              by_cases e : z = x
              · subst e
                have a : z ∉ ys := fun h => by have := hy1 z h; omega
                have b : z ∉ xs := fun h => by have := hx1 z h; omega
                simp [a, b, hf]
              · simp [e]
            · rcases joinF_mem f _ xs ys rfl z hz with h | h
              · exact hx1 z h
              · exact hy1 z h
theorem set_asc {l : List Int} {n : Int} (h : setB n l = true) : l.Pairwise (· < ·) := setFrom_pairwise h
theorem set_mem {l : List Int} {n : Int} (h : setB n l = true) : ∀ x ∈ l, 1 ≤ x ∧ x ≤ n := fun x hx => by
  have := setFrom_mem h x hx
  omega
theorem filter_asc {l : List Int} (p : Int → Bool) (h : l.Pairwise (· < ·)) : (l.filter p).Pairwise (· < ·) := h.filter p
theorem lessF_filter {l g : List Int} (hl : l.Pairwise (· < ·)) (hg : g.Pairwise (· < ·)) : lessF l g = l.filter fun x => !decide (x ∈ g) := by
  obtain ⟨h1, h2⟩ := joinF_spec (fun a b => a && !b) rfl _ l g rfl hl hg
  refine sorted_ext h2 (filter_asc _ hl) fun z => ?_
  refine (h1 z).trans ?_
  rw [List.mem_filter]
  simp
theorem bothF_filter {l g : List Int} (hl : l.Pairwise (· < ·)) (hg : g.Pairwise (· < ·)) : bothF l g = l.filter fun x => decide (x ∈ g) := by
  obtain ⟨h1, h2⟩ := joinF_spec (fun a b => a && b) rfl _ l g rfl hl hg
  refine sorted_ext h2 (filter_asc _ hl) fun z => ?_
  refine (h1 z).trans ?_
  rw [List.mem_filter]
  simp
theorem upTo_mem (n x : Int) : x ∈ upTo n ↔ 1 ≤ x ∧ x ≤ n := by
  unfold upTo
  rw [List.mem_map]
  constructor
  · rintro ⟨k, hk, rfl⟩
    rw [List.mem_range] at hk
    omega
  · rintro ⟨h1, h2⟩
    exact ⟨(x - 1).toNat, List.mem_range.2 (by omega), by omega⟩
theorem upTo_asc (n : Int) : (upTo n).Pairwise (· < ·) := by
  unfold upTo
  rw [List.pairwise_map]
  exact List.pairwise_lt_range.imp fun h => by omega
theorem anyF_filter {l g : List Int} (hl : setB 300 l = true) (hg : setB 300 g = true) : anyF l g = (upTo 300).filter fun x => decide (x ∈ l) || decide (x ∈ g) := by
  obtain ⟨h1, h2⟩ := joinF_spec (fun a b => a || b) rfl _ l g rfl (set_asc hl) (set_asc hg)
  refine sorted_ext h2 (filter_asc _ (upTo_asc _)) fun z => ?_
  refine (h1 z).trans ?_
  rw [List.mem_filter, upTo_mem]
  constructor
  · intro h
    refine ⟨?_, h⟩
    simp at h
    rcases h with h | h
    · exact set_mem hl z h
    · exact set_mem hg z h
  · exact fun h => h.2
end Go.Proofs.Ytpbdlkbiiglkdaa

/- The reference's Shift, in plain Lean. -/
set_option linter.unusedVariables false
set_option linter.unusedSimpArgs false
namespace Go.Proofs.Ytpbdlkbiiglkdaa
open Go.RowKit Go.Proofs.YtpbdlkbiiglkdaaW.PrintWords Go.Proofs.YtpbdlkbiiglkdaaW.PrintLast Go.Proofs.YtpbdlkbiiglkdaaW.PrintMore Go.Proofs.Cab

theorem below_cons (y : Int) (g : List Int) (x : Int) : (below (y :: g) x : Int) = (if y < x then 1 else 0) + (below g x : Int) := by
  unfold below
  rw [List.filter_cons]
  by_cases h : y < x
  · rw [if_pos (decide_eq_true h), if_pos h, List.length_cons]; omega
  · rw [if_neg (by simpa using h), if_neg h]; omega
theorem below_le (g : List Int) (x : Int) : below g x ≤ g.length := List.length_filter_le _ _
def shiftG (l g : List Int) : List Int := (l.filter fun x => !decide (x ∈ g)).map fun x => x - (below g x : Int)
theorem shiftG_length (l g : List Int) : (shiftG l g).length ≤ l.length := by
  unfold shiftG
  rw [List.length_map]
  exact List.length_filter_le _ _

theorem shiftR_l1 (l g out : List Int) (hl : l.length ≤ 10000) (hg : g.length ≤ 10000) (ho : out.length ≤ 10000) (i : Nat) (hi : i < l.length) : ∀ (d j k : Nat) (n : Int), g.length - j = d → j ≤ g.length → -1000000 + d ≤ n → n ≤ 1000000 →
    PAll.cabinetryref12_Shift.l1 (k + d + 1) l g out (i : Int) n (j : Int) = PAll.cabinetryref12_Shift.l0 k l g (out ++ [n - (below (g.drop j) l[i] : Int)]) ((i + 1 : Nat) : Int)
  | 0, j, k, n, hd, hj, h1, h2 => by
    obtain rfl : j = g.length := by omega
    rw [PAll.cabinetryref12_Shift.l1, if_neg (by omega), if_pos (by omega), wrap_id (by omega) (by omega), List.drop_length]
    simp [below]
  | d + 1, j, k, n, hd, hj, h1, h2 => by
    have hlt : j < g.length := by omega
    rw [show k + (d + 1) + 1 = (k + d + 1) + 1 by omega, PAll.cabinetryref12_Shift.l1, if_pos (by omega), if_pos (by omega), if_pos (by omega), if_pos (by omega), rd_at g j hlt, rd_at l i hi, drop_at g j hlt, below_cons]
    have hw : wrap64 ((j : Int) + 1) = ((j + 1 : Nat) : Int) := by rw [wrap_id (by omega) (by omega)]; omega
    rw [hw]
    by_cases h : g[j] < l[i]
    · rw [if_pos h, if_pos h, wrap_id (by omega) (by omega), shiftR_l1 l g out hl hg ho i hi d (j + 1) k (n - 1) (by omega) (by omega) (by omega) (by omega)]
      have e : ∀ X : Int, n - (1 + X) = n - 1 - X := fun X => by omega
      rw [e]
    · rw [if_neg h, if_neg h, shiftR_l1 l g out hl hg ho i hi d (j + 1) k n (by omega) (by omega) (by omega) (by omega), Int.zero_add]
theorem shiftR_l0 (l g : List Int) (hl : l.length ≤ 3000) (hg : g.length ≤ 3000) (hv : ∀ x ∈ l, -10000 ≤ x ∧ x ≤ 10000) : ∀ (d i k : Nat) (out : List Int), l.length - i = d → i ≤ l.length → out.length ≤ i → d * (g.length + 2) + g.length + 2 ≤ k →
    PAll.cabinetryref12_Shift.l0 k l g out (i : Int) = some (out ++ shiftG (l.drop i) g, 0)
  | 0, i, k + 1, out, hd, hi, ho, hk => by
    obtain rfl : i = l.length := by omega
    rw [PAll.cabinetryref12_Shift.l0, if_neg (by omega), List.drop_length]
    simp [shiftG]
  | d + 1, i, k + 1, out, hd, hi, ho, hk => by
    have hlt : i < l.length := by omega
    rw [Nat.succ_mul] at hk
    have hw : wrap64 ((i : Int) + 1) = ((i + 1 : Nat) : Int) := by rw [wrap_id (by omega) (by omega)]; omega
    rw [PAll.cabinetryref12_Shift.l0, if_pos (by omega), if_pos (by omega), rd_at l i hlt, drop_at l i hlt, hasR_f _ _ _ (by omega) (by omega), Option.bind_some]
    have hvi := hv l[i] (List.getElem_mem hlt)
    by_cases h : l[i] ∈ g
    · rw [if_pos (by simpa using h), hw, shiftR_l0 l g hl hg hv d (i + 1) k out (by omega) (by omega) (by omega) (by omega)]
      simp only [shiftG]
      rw [List.filter_cons, if_neg (by simpa using h)]
    · rw [if_neg (by simpa using h), show k = (k - g.length - 1) + g.length + 1 by omega]
      have h0 := shiftR_l1 l g out (by omega) (by omega) (by omega) i hlt g.length 0 (k - g.length - 1) l[i] (by omega) (by omega) (by omega) (by omega)
      rw [show ((0 : Nat) : Int) = 0 from rfl] at h0
      rw [h0, shiftR_l0 l g hl hg hv d (i + 1) (k - g.length - 1) _ (by omega) (by omega) (by rw [List.length_append, List.length_singleton]; omega) (by omega)]
      simp only [shiftG]
      rw [List.filter_cons, if_pos (by simpa using h), List.map_cons, List.drop_zero, List.append_assoc]
      rfl
theorem shiftR_f (l g : List Int) (hl : l.length ≤ 3000) (hg : g.length ≤ 3000) : ∃ k, PAll.cabinetryref12_Shift.f k l g = some (shiftL l g, shiftE l g) := by
  refine ⟨l.length * (g.length + 2) + l.length + g.length + 10 + 1, ?_⟩
  rw [PAll.cabinetryref12_Shift.f, isSetR_f l _ (by omega) (by omega), Option.bind_some, isSetR_f g _ (by omega) (by omega), Option.bind_some]
  unfold shiftL shiftE
  by_cases h1 : setB 300 l = true
  · rw [if_pos h1]
    by_cases h2 : setB 300 g = true
    · rw [if_pos ⟨h1, h2⟩, if_pos ⟨h1, h2⟩, h2, PAll.cabinetryref12_Shift.j0, if_neg (by decide)]
      have h := shiftR_l0 l g hl hg (fun x hx => by have := set_mem h1 x hx; omega) l.length 0 (l.length * (g.length + 2) + l.length + g.length + 10) [] (by omega) (by omega) (by simp) (by omega)
      rw [show ((0 : Nat) : Int) = 0 from rfl] at h
      rw [h, List.nil_append, List.drop_zero, shiftF, lessF_filter (set_asc h1) (set_asc h2)]
      rfl
    · rw [if_neg (fun h => h2 h.2), if_neg (fun h => h2 h.2), PAll.cabinetryref12_Shift.j0, if_pos (by simpa using h2)]
  · rw [if_neg h1, if_neg (fun h => h1 h.1), if_neg (fun h => h1 h.1), PAll.cabinetryref12_Shift.j0, if_pos rfl]
theorem ShiftR_any (A0 : Option Addr) (c0 : Nat) (l0 : List Int) (A1 : Option Addr) (c1 : Nat) (l1 : List Int) (w : World)
    (hr0 : Kd.C (Kd.int .i64) w A0 l0.length l0) (hc0 : l0.length ≤ c0) (hr1 : Kd.C (Kd.int .i64) w A1 l1.length l1) (hc1 : l1.length ≤ c1) (hl0 : l0.length ≤ 3000) (hl1 : l1.length ≤ 3000) :
    Calls Try.prog 14 #[.slice A0 l0.length c0, .slice A1 l1.length c1] w fun e w' => ∃ v : Value, e = .returned (.tuple #[v, .int .i64 (shiftE l0 l1)]) ∧ Own w' w.heap.size v (shiftL l0 l1) ∧ Below w.heap.size w w' := by
  obtain ⟨k, hk⟩ := shiftR_f l0 l1 hl0 hl1
  exact PAll.cabinetryref12_Shift.calls k A0 c0 l0 A1 c1 l1 _ _ w hr0 hc0 hr1 hc1 hk
end Go.Proofs.Ytpbdlkbiiglkdaa

/- What the reference answers: Validate, And, Or, Not, Any, True, Doubt. -/
set_option linter.unusedVariables false
set_option linter.unusedSimpArgs false
namespace Go.Proofs.Ytpbdlkbiiglkdaa
open Go.RowKit Go.Proofs.YtpbdlkbiiglkdaaW.PrintWords Go.Proofs.YtpbdlkbiiglkdaaW.PrintLast Go.Proofs.YtpbdlkbiiglkdaaW.PrintMore Go.Proofs.Cab

theorem if_congr' {a b : Prop} [Decidable a] [Decidable b] (h : a ↔ b) (x y : Int) : (if a then x else y) = (if b then x else y) := by
  by_cases ha : a
  · rw [if_pos ha, if_pos (h.1 ha)]
  · rw [if_neg ha, if_neg fun hb => ha (h.2 hb)]
theorem filter_mem_nil {s m : List Int} : (s.filter fun x => !decide (x ∈ m)) = [] ↔ ∀ x ∈ s, x ∈ m := by
  rw [List.filter_eq_nil_iff]
  simp
theorem valR_l0 (s m : List Int) (hs : s.length ≤ 3000) (hm : m.length ≤ 3000) : ∀ (d i k : Nat), s.length - i = d → i ≤ s.length → d + 3001 < k →
    PAll.cabinetryref12_Validate.l0 k (i : Int) s m = some (if ∀ x ∈ s.drop i, x ∈ m then 0 else 1)
  | 0, i, k + 1, hd, hi, hk => by
    obtain rfl : i = s.length := by omega
    rw [PAll.cabinetryref12_Validate.l0, if_neg (by omega), List.drop_length]
    simp
  | d + 1, i, k + 1, hd, hi, hk => by
    have hlt : i < s.length := by omega
    have hw : wrap64 ((i : Int) + 1) = ((i + 1 : Nat) : Int) := by rw [wrap_id (by omega) (by omega)]; omega
    rw [PAll.cabinetryref12_Validate.l0, if_pos (by omega), if_pos (by omega), rd_at s i hlt, hasR_f _ _ _ (by omega) (by omega), Option.bind_some, drop_at s i hlt]
    by_cases h : s[i] ∈ m
    · rw [if_pos (decide_eq_true h), hw, valR_l0 s m hs hm d (i + 1) k (by omega) (by omega) (by omega)]
      congr 1
      exact if_congr' ⟨fun e x hx => (List.mem_cons.1 hx).elim (fun h' => h' ▸ h) (e x), fun e x hx => e x (List.mem_cons_of_mem _ hx)⟩ _ _
    · rw [if_neg (by simpa using h), if_neg fun e => h (e _ List.mem_cons_self)]
theorem valR_f (s m : List Int) (k : Nat) (hs : s.length ≤ 3000) (hm : m.length ≤ 3000) (hk : 8000 ≤ k) : PAll.cabinetryref12_Validate.f k s m = some (valE s m) := by
  obtain ⟨k, rfl⟩ : ∃ j, k = j + 1 := ⟨k - 1, by omega⟩
  rw [PAll.cabinetryref12_Validate.f, isSetR_f s _ (by omega) (by omega), Option.bind_some, isSetR_f m _ (by omega) (by omega), Option.bind_some]
  unfold valE
  by_cases h1 : setB 300 s = true
  · rw [if_pos h1]
    by_cases h2 : setB 300 m = true
    · rw [h2, PAll.cabinetryref12_Validate.j0, if_neg (by decide)]
      have h := valR_l0 s m hs hm s.length 0 k (by omega) (by omega) (by omega)
      rw [show ((0 : Nat) : Int) = 0 from rfl, List.drop_zero] at h
      rw [h]
      congr 1
      refine if_congr' ?_ _ _
      rw [lessF_filter (set_asc h1) (set_asc h2), filter_mem_nil]
      exact ⟨fun e => ⟨h1, rfl, e⟩, fun e => e.2.2⟩
    · rw [PAll.cabinetryref12_Validate.j0, if_pos (by simpa using h2), if_neg fun e => h2 e.2.1]
  · rw [if_neg h1, PAll.cabinetryref12_Validate.j0, if_pos rfl, if_neg fun e => h1 e.1]
theorem bothR_f (s m t n : List Int) (k : Nat) (hs : s.length ≤ 3000) (hm : m.length ≤ 3000) (ht : t.length ≤ 3000) (hn : n.length ≤ 3000) (hk : 8000 ≤ k) : PAll.cabinetryref12_both.f k s m t n = some (bothE s m t n) := by
  rw [PAll.cabinetryref12_both.f, valR_f s m k hs hm hk, Option.bind_some, valR_f t n k ht hn hk, Option.bind_some]
  unfold bothE
  split <;> rfl
theorem inBothR_l0 (l g : List Int) (hl : l.length ≤ 3000) (hg : g.length ≤ 3000) : ∀ (d i k : Nat) (out : List Int), l.length - i = d → i ≤ l.length → out.length ≤ i → d + 3001 < k →
    PAll.cabinetryref12_inBoth.l0 k l g out (i : Int) = some (out ++ (l.drop i).filter fun x => decide (x ∈ g))
  | 0, i, k + 1, out, hd, hi, ho, hk => by
    obtain rfl : i = l.length := by omega
    rw [PAll.cabinetryref12_inBoth.l0, if_neg (by omega), List.drop_length]
    simp
  | d + 1, i, k + 1, out, hd, hi, ho, hk => by
    have hlt : i < l.length := by omega
    have hw : wrap64 ((i : Int) + 1) = ((i + 1 : Nat) : Int) := by rw [wrap_id (by omega) (by omega)]; omega
    rw [PAll.cabinetryref12_inBoth.l0, if_pos (by omega), if_pos (by omega), rd_at l i hlt, hasR_f _ _ _ (by omega) (by omega), Option.bind_some, drop_at l i hlt, List.filter_cons, hw]
    by_cases h : l[i] ∈ g
    · rw [if_pos (decide_eq_true h), if_pos (by omega), if_pos (decide_eq_true h), inBothR_l0 l g hl hg d (i + 1) k _ (by omega) (by omega) (by rw [List.length_append, List.length_singleton]; omega) (by omega), List.append_assoc]
      rfl
    · rw [if_neg (by simpa using h), if_neg (by simpa using h), inBothR_l0 l g hl hg d (i + 1) k _ (by omega) (by omega) (by omega) (by omega)]
theorem inBothR_f (l g : List Int) (k : Nat) (hl : l.length ≤ 3000) (hg : g.length ≤ 3000) (hk : 8000 ≤ k) : PAll.cabinetryref12_inBoth.f k l g = some (l.filter fun x => decide (x ∈ g)) :=
  inBothR_l0 l g hl hg l.length 0 k [] (by omega) (by omega) (by simp) (by omega)
theorem lessR_l0 (l g : List Int) (hl : l.length ≤ 3000) (hg : g.length ≤ 3000) : ∀ (d i k : Nat) (out : List Int), l.length - i = d → i ≤ l.length → out.length ≤ i → d + 3001 < k →
    PAll.cabinetryref12_less.l0 k l g out (i : Int) = some (out ++ (l.drop i).filter fun x => !decide (x ∈ g))
  | 0, i, k + 1, out, hd, hi, ho, hk => by
    obtain rfl : i = l.length := by omega
    rw [PAll.cabinetryref12_less.l0, if_neg (by omega), List.drop_length]
    simp
  | d + 1, i, k + 1, out, hd, hi, ho, hk => by
    have hlt : i < l.length := by omega
    have hw : wrap64 ((i : Int) + 1) = ((i + 1 : Nat) : Int) := by rw [wrap_id (by omega) (by omega)]; omega
    rw [PAll.cabinetryref12_less.l0, if_pos (by omega), if_pos (by omega), rd_at l i hlt, hasR_f _ _ _ (by omega) (by omega), Option.bind_some, drop_at l i hlt, List.filter_cons, hw]
    by_cases h : l[i] ∈ g
    · rw [if_pos (decide_eq_true h), if_neg (by simpa using h), lessR_l0 l g hl hg d (i + 1) k _ (by omega) (by omega) (by omega) (by omega)]
    · rw [if_neg (by simpa using h), if_pos (by omega), if_pos (by simpa using h), lessR_l0 l g hl hg d (i + 1) k _ (by omega) (by omega) (by rw [List.length_append, List.length_singleton]; omega) (by omega), List.append_assoc]
      rfl
theorem lessR_f (l g : List Int) (k : Nat) (hl : l.length ≤ 3000) (hg : g.length ≤ 3000) (hk : 8000 ≤ k) : PAll.cabinetryref12_less.f k l g = some (l.filter fun x => !decide (x ∈ g)) :=
  lessR_l0 l g hl hg l.length 0 k [] (by omega) (by omega) (by simp) (by omega)

/-- The numbers from i on to n. -/
def fromTo (n : Int) : Nat → Int → List Int
  | 0, _ => []
  | d + 1, i => i :: fromTo n d (i + 1)
theorem fromTo_mem (n : Int) : ∀ (d : Nat) (i : Int), ∀ x, x ∈ fromTo n d i ↔ i ≤ x ∧ x < i + d
  | 0, i, x => ⟨fun h => absurd h (by simp [fromTo]), fun h => by omega⟩
  | d + 1, i, x => by
    rw [fromTo, List.mem_cons, fromTo_mem n d (i + 1) x]
    omega
theorem fromTo_asc (n : Int) : ∀ (d : Nat) (i : Int), (fromTo n d i).Pairwise (· < ·)
  | 0, i => List.Pairwise.nil
  | d + 1, i => List.pairwise_cons.2 ⟨fun x hx => by rw [fromTo_mem] at hx; omega, fromTo_asc n d (i + 1)⟩
theorem upTo_fromTo (n : Int) : upTo n = fromTo n n.toNat 1 := sorted_ext (upTo_asc n) (fromTo_asc _ _ _) fun z => by
  rw [upTo_mem, fromTo_mem]
  omega
theorem eitherR_l0 (l g : List Int) (hl : l.length ≤ 3000) (hg : g.length ≤ 3000) : ∀ (d : Nat) (i : Int) (k : Nat) (out : List Int), 300 + 1 - i = d → 1 ≤ i → out.length < i → d + 3001 < k →
    PAll.cabinetryref12_either.l0 k l g out i = some (out ++ (fromTo 300 d i).filter fun x => decide (x ∈ l) || decide (x ∈ g))
  | 0, i, k + 1, out, hd, hi, ho, hk => by
    rw [PAll.cabinetryref12_either.l0, if_neg (by omega)]
    simp [fromTo]
  | d + 1, i, k + 1, out, hd, hi, ho, hk => by
    have hw : wrap64 (i + 1) = i + 1 := wrap_id (by omega) (by omega)
    rw [PAll.cabinetryref12_either.l0, if_pos (by omega), hasR_f _ _ _ (by omega) (by omega), Option.bind_some, hw, fromTo, List.filter_cons]
    by_cases h : i ∈ l
    · rw [if_pos (decide_eq_true h), if_pos (by omega), if_pos (by simp [h]), eitherR_l0 l g hl hg d (i + 1) k _ (by omega) (by omega) (by rw [List.length_append, List.length_singleton]; omega) (by omega), List.append_assoc]
      rfl
    · rw [if_neg (by simpa using h), hasR_f _ _ _ (by omega) (by omega), Option.bind_some]
      by_cases h2 : i ∈ g
      · rw [if_pos (decide_eq_true h2), if_pos (by omega), if_pos (by simp [h2]), eitherR_l0 l g hl hg d (i + 1) k _ (by omega) (by omega) (by rw [List.length_append, List.length_singleton]; omega) (by omega), List.append_assoc]
        rfl
      · rw [if_neg (by simpa using h2), if_neg (by simp [h, h2]), eitherR_l0 l g hl hg d (i + 1) k _ (by omega) (by omega) (by omega) (by omega)]
theorem eitherR_f (l g : List Int) (k : Nat) (hl : l.length ≤ 3000) (hg : g.length ≤ 3000) (hk : 8000 ≤ k) : PAll.cabinetryref12_either.f k l g = some ((upTo 300).filter fun x => decide (x ∈ l) || decide (x ∈ g)) := by
  rw [upTo_fromTo]
  exact eitherR_l0 l g hl hg 300 1 k [] (by omega) (by omega) (by simp) (by omega)
theorem upToR_l0 (n : Int) (hn : n ≤ 300) : ∀ (d : Nat) (i : Int) (k : Nat) (out : List Int), n + 1 - i ≤ d → (d = 0 ∨ n + 1 - i = d) → 1 ≤ i → i ≤ 301 → out.length < i → d < k →
    PAll.cabinetryref12_upTo.l0 k n out i = some (out ++ fromTo n d i)
  | 0, i, k + 1, out, hd, hd2, hi, hi2, ho, hk => by
    rw [PAll.cabinetryref12_upTo.l0, if_neg (by omega)]
    simp [fromTo]
  | d + 1, i, k + 1, out, hd, hd2, hi, hi2, ho, hk => by
    have hw : wrap64 (i + 1) = i + 1 := wrap_id (by omega) (by omega)
    rw [PAll.cabinetryref12_upTo.l0, if_pos (by omega), if_pos (by omega), hw, fromTo, upToR_l0 n hn d (i + 1) k _ (by omega) (by omega) (by omega) (by omega) (by rw [List.length_append, List.length_singleton]; omega) (by omega), List.append_assoc]
    rfl
theorem upToR_f (n : Int) (k : Nat) (hn : n ≤ 300) (hk : 8000 ≤ k) : PAll.cabinetryref12_upTo.f k n = some (upTo n) := by
  rw [upTo_fromTo]
  exact upToR_l0 n hn n.toNat 1 k [] (by omega) (by omega) (by omega) (by omega) (by simp) (by omega)

/-- A set's last number is its greatest. -/
theorem set_last {l : List Int} (h : setB 300 l = true) (n : Int) (h0 : 0 ≤ n) (hl : 0 < l.length) : setB n l = decide (l[l.length - 1] ≤ n) := by
  have ha := set_asc h
  have hm := set_mem h
  have hle : ∀ x ∈ l, x ≤ l[l.length - 1] := fun x hx => by
    obtain ⟨i, hi, rfl⟩ := List.getElem_of_mem hx
    rcases Nat.lt_or_ge i (l.length - 1) with hlt | hge
    · exact Int.le_of_lt (List.pairwise_iff_getElem.1 ha i (l.length - 1) hi (by omega) hlt)
    · have : i = l.length - 1 := by omega
      subst this
      exact Int.le_refl _
  rw [Bool.eq_iff_iff, decide_eq_true_iff]
  constructor
  · intro e
    exact (set_mem e _ (List.getElem_mem (by omega))).2
  · intro e
    have key : ∀ (l : List Int) (p : Int), l.Pairwise (· < ·) → (∀ x ∈ l, p < x ∧ x ≤ n) → setFrom n p l = true := by
      intro l
      induction l with
      | nil => exact fun _ _ _ => rfl
      | cons x l ih =>
        intro p hp hx
        obtain ⟨h1, h2⟩ := List.pairwise_cons.1 hp
        simp only [setFrom, Bool.and_eq_true, decide_eq_true_eq]
        exact ⟨(hx x List.mem_cons_self).1, (hx x List.mem_cons_self).2, ih x h2 fun y hy => ⟨h1 y hy, (hx y (List.mem_cons_of_mem _ hy)).2⟩⟩
    exact key l 0 ha fun x hx => ⟨by have := hm x hx; omega, Int.le_trans (hle x hx) e⟩
theorem isBelowR_f (l : List Int) (n : Int) (hl : l.length ≤ 3000) (h : setB 300 l = true) : PAll.cabinetryref12_isBelow.f l n = some (countB n && setB n l) := by
  rw [PAll.cabinetryref12_isBelow.f]
  unfold countB
  by_cases h0 : 0 ≤ n
  · rw [if_pos h0, decide_eq_true h0]
    by_cases h1 : n ≤ 300
    · rw [if_pos h1, decide_eq_true h1]
      by_cases h2 : (l.length : Int) = 0
      · rw [if_pos h2]
        obtain rfl : l = [] := List.eq_nil_of_length_eq_zero (by omega)
        rfl
      · have hw : wrap64 ((l.length : Int) - 1) = ((l.length - 1 : Nat) : Int) := by rw [wrap_id (by omega) (by omega)]; omega
        rw [if_neg h2, hw, if_pos (by omega), if_pos (by omega), rd_at l _ (by omega), set_last h n h0 (by omega)]
        simp
    · rw [if_neg h1, decide_eq_false h1]
      rfl
  · rw [if_neg h0, decide_eq_false h0]
    rfl
end Go.Proofs.Ytpbdlkbiiglkdaa

/- The reference's And, Or, Not, Any, True, Doubt by contract. -/
set_option linter.unusedVariables false
set_option linter.unusedSimpArgs false
namespace Go.Proofs.Ytpbdlkbiiglkdaa
open Go.RowKit Go.Proofs.YtpbdlkbiiglkdaaW.PrintWords Go.Proofs.YtpbdlkbiiglkdaaW.PrintLast Go.Proofs.YtpbdlkbiiglkdaaW.PrintMore Go.Proofs.Cab

theorem valE_sets {s m : List Int} (h : valE s m = 0) : setB 300 s = true ∧ setB 300 m = true ∧ lessF s m = [] := by
  unfold valE at h
  split at h
  · assumption
  · cases h
theorem bothE_zero {l0 l1 m0 m1 : List Int} : bothE l0 l1 m0 m1 = 0 ↔ valE l0 l1 = 0 ∧ valE m0 m1 = 0 := by
  unfold bothE
  by_cases h : valE l0 l1 = 0
  · rw [if_pos h]; simp [h]
  · rw [if_neg h]; simp [h]
theorem AndR_f (l0 l1 m0 m1 : List Int) (h0 : l0.length ≤ 3000) (h1 : l1.length ≤ 3000) (h2 : m0.length ≤ 3000) (h3 : m1.length ≤ 3000) :
    PAll.cabinetryref12_And.f 8000 l0 l1 m0 m1 = some (bothL (fun a b => a && b) l0 l1 m0 m1 l0 m0, bothL (fun a b => a && b) l0 l1 m0 m1 l1 m1, bothE l0 l1 m0 m1) := by
  rw [PAll.cabinetryref12_And.f, bothR_f _ _ _ _ _ h0 h1 h2 h3 (Nat.le_refl _), Option.bind_some, inBothR_f _ _ _ h0 h2 (Nat.le_refl _), Option.bind_some, inBothR_f _ _ _ h1 h3 (Nat.le_refl _), Option.bind_some]
  unfold bothL
  by_cases h : bothE l0 l1 m0 m1 = 0
  · obtain ⟨a, b⟩ := bothE_zero.1 h
    obtain ⟨a1, a2, _⟩ := valE_sets a
    obtain ⟨b1, b2, _⟩ := valE_sets b
    rw [if_pos h, if_pos ⟨a, b⟩, if_pos ⟨a, b⟩, h, ← bothF_filter (set_asc a1) (set_asc b1), ← bothF_filter (set_asc a2) (set_asc b2)]
    rfl
  · rw [if_neg h, if_neg fun e => h (bothE_zero.2 e), if_neg fun e => h (bothE_zero.2 e)]
theorem OrR_f (l0 l1 m0 m1 : List Int) (h0 : l0.length ≤ 3000) (h1 : l1.length ≤ 3000) (h2 : m0.length ≤ 3000) (h3 : m1.length ≤ 3000) :
    PAll.cabinetryref12_Or.f 8000 l0 l1 m0 m1 = some (bothL (fun a b => a || b) l0 l1 m0 m1 l0 m0, bothL (fun a b => a || b) l0 l1 m0 m1 l1 m1, bothE l0 l1 m0 m1) := by
  rw [PAll.cabinetryref12_Or.f, bothR_f _ _ _ _ _ h0 h1 h2 h3 (Nat.le_refl _), Option.bind_some, eitherR_f _ _ _ h0 h2 (Nat.le_refl _), Option.bind_some, eitherR_f _ _ _ h1 h3 (Nat.le_refl _), Option.bind_some]
  unfold bothL
  by_cases h : bothE l0 l1 m0 m1 = 0
  · obtain ⟨a, b⟩ := bothE_zero.1 h
    obtain ⟨a1, a2, _⟩ := valE_sets a
    obtain ⟨b1, b2, _⟩ := valE_sets b
    rw [if_pos h, if_pos ⟨a, b⟩, if_pos ⟨a, b⟩, h, ← anyF_filter a1 b1, ← anyF_filter a2 b2]
    rfl
  · rw [if_neg h, if_neg fun e => h (bothE_zero.2 e), if_neg fun e => h (bothE_zero.2 e)]
theorem countB_range {n : Int} (h : countB n = true) : 0 ≤ n ∧ n ≤ 300 := by
  unfold countB at h
  simpa using h
theorem NotR_f (l0 l1 : List Int) (n : Int) (h0 : l0.length ≤ 3000) (h1 : l1.length ≤ 3000) :
    PAll.cabinetryref12_Not.f 8000 l0 l1 n = some (notL l0 l1 n l1, notL l0 l1 n l0, notE l0 l1 n) := by
  rw [PAll.cabinetryref12_Not.f, valR_f _ _ _ h0 h1 (Nat.le_refl _), Option.bind_some]
  by_cases h : valE l0 l1 = 0
  · obtain ⟨a1, a2, _⟩ := valE_sets h
    rw [if_pos h, isBelowR_f _ _ h1 a2, Option.bind_some]
    by_cases hc : (countB n && setB n l1) = true
    · obtain ⟨c1, c2⟩ := Bool.and_eq_true_iff.1 hc
      have hn := countB_range c1
      have hu : (upTo n).length ≤ 3000 := by rw [upTo_length]; omega
      have hE : notE l0 l1 n = 0 := by unfold notE; rw [if_pos h, if_pos ⟨c1, c2⟩]
      unfold notL
      rw [if_pos hc, if_pos hE, if_pos hE, hE, upToR_f n _ hn.2 (Nat.le_refl _), Option.bind_some, lessR_f _ _ _ hu h1 (Nat.le_refl _), Option.bind_some, Option.bind_some, lessR_f _ _ _ hu h0 (Nat.le_refl _), Option.bind_some,
        lessF_filter (upTo_asc n) (set_asc a2), lessF_filter (upTo_asc n) (set_asc a1)]
    · have hE : notE l0 l1 n = 1 := by unfold notE; rw [if_pos h, if_neg fun e => hc (Bool.and_eq_true_iff.2 e)]
      unfold notL
      rw [if_neg hc, hE, if_neg (by decide), if_neg (by decide)]
  · have hz : ¬ notE l0 l1 n = 0 := by unfold notE; rw [if_neg h]; exact h
    rw [if_neg h]
    unfold notL
    rw [if_neg hz, if_neg hz]
    unfold notE
    rw [if_neg h]
def anyE (n : Int) : Int := if countB n = true then 0 else 1
def anyL (n : Int) : List Int := if countB n = true then upTo n else []
theorem AnyR_f (n : Int) : PAll.cabinetryref12_Any.f 8000 n = some ([], anyL n, anyE n) := by
  rw [PAll.cabinetryref12_Any.f, isBelowR_f _ _ (by simp) rfl, Option.bind_some, show setB n [] = true from rfl, Bool.and_true]
  unfold anyL anyE
  by_cases h : countB n = true
  · rw [if_pos h, if_pos h, if_pos h, upToR_f n _ (countB_range h).2 (Nat.le_refl _), Option.bind_some]
  · rw [if_neg h, if_neg h, if_neg h]
theorem isCount_f (n : Int) : PAll.bits_isCount.f n = some (countB n) := by
  unfold PAll.bits_isCount.f countB
  by_cases h : 0 ≤ n
  · rw [if_pos h, decide_eq_true h]; rfl
  · rw [if_neg h, decide_eq_false h]; rfl
theorem all_f (n : Int) (hn : n ≤ 300) : PAll.bits_all.f (n.toNat + 1) n = some (upTo n) := by
  have := all_l0 n hn n.toNat 0 (by omega) (by omega)
  simpa [PAll.bits_all.f] using this
theorem Any_f (n : Int) : ∃ k, PAll.bits_Any.f k n = some ([], anyL n, anyE n) := by
  refine ⟨n.toNat + 1, ?_⟩
  rw [PAll.bits_Any.f, isCount_f, Option.bind_some]
  unfold anyL anyE
  by_cases h : countB n = true
  · rw [if_pos h, if_pos h, if_pos h, all_f n (countB_range h).2, Option.bind_some]
  · rw [if_neg h, if_neg h, if_neg h]
/-- What True answers. -/
def trueE (l0 l1 l : List Int) : Int := if valE l0 l1 = 0 then (if setB 300 l = true then 0 else 1) else valE l0 l1
def trueB (l0 l1 l : List Int) : Bool := if trueE l0 l1 l = 0 then (decide (lessF l0 l = []) && decide (lessF l l1 = [])) else false
theorem TrueR_f (l0 l1 l : List Int) (h0 : l0.length ≤ 3000) (h1 : l1.length ≤ 3000) (h2 : l.length ≤ 3000) : PAll.cabinetryref12_True.f 8000 l0 l1 l = some (trueB l0 l1 l, trueE l0 l1 l) := by
  rw [PAll.cabinetryref12_True.f, valR_f _ _ _ h0 h1 (Nat.le_refl _), Option.bind_some]
  unfold trueB trueE
  by_cases h : valE l0 l1 = 0
  · obtain ⟨a1, a2, _⟩ := valE_sets h
    rw [if_pos h, if_pos h, isSetR_f _ _ (by omega) (by omega), Option.bind_some]
    by_cases hc : setB 300 l = true
    · rw [if_pos hc, if_pos hc, if_pos rfl, lessR_f _ _ _ h0 h2 (Nat.le_refl _), Option.bind_some, lessR_f _ _ _ h2 h1 (Nat.le_refl _), Option.bind_some, ← lessF_filter (set_asc a1) (set_asc hc), ← lessF_filter (set_asc hc) (set_asc a2)]
      by_cases h3 : lessF l0 l = []
      · rw [h3, if_pos (show (([] : List Int).length : Int) = 0 from rfl)]
        have e : (((lessF l l1).length : Int) == 0) = decide (lessF l l1 = []) := by
          cases lessF l l1 with
          | nil => rfl
          | cons x t => rw [decide_eq_false (by simp)]; simp only [List.length_cons, beq_eq_false_iff_ne]; omega
        rw [e]
        rfl
      · rw [if_neg (by intro e; exact h3 (List.eq_nil_of_length_eq_zero (by omega)))]
        simp [h3]
    · rw [if_neg hc, if_neg hc, if_neg (by decide)]
  · rw [if_neg h, if_neg h, if_neg h]
def doubtL (l0 l1 : List Int) : List Int := if valE l0 l1 = 0 then lessF l1 l0 else []
theorem DoubtR_f (l0 l1 : List Int) (h0 : l0.length ≤ 3000) (h1 : l1.length ≤ 3000) : PAll.cabinetryref12_Doubt.f 8000 l0 l1 = some (doubtL l0 l1, valE l0 l1) := by
  rw [PAll.cabinetryref12_Doubt.f, valR_f _ _ _ h0 h1 (Nat.le_refl _), Option.bind_some]
  unfold doubtL
  by_cases h : valE l0 l1 = 0
  · obtain ⟨a1, a2, _⟩ := valE_sets h
    rw [if_pos h, if_pos h, lessR_f _ _ _ h1 h0 (Nat.le_refl _), Option.bind_some, ← lessF_filter (set_asc a2) (set_asc a1), h]
  · rw [if_neg h, if_neg h]

theorem own_of_R {w : World} {base : Nat} {ok : Nat → Prop} {v : Value} {xs : List Int} (h : Kd.R (Kd.int .i64) 3 w base ok v xs) : Own w base v xs := Kd.R_mono h fun _ _ => trivial
section
variable (Ax0 : Option Addr) (cx0 : Nat) (lx0 : List Int) (Ax1 : Option Addr) (cx1 : Nat) (lx1 : List Int) (Ay0 : Option Addr) (cy0 : Nat) (ly0 : List Int) (Ay1 : Option Addr) (cy1 : Nat) (ly1 : List Int) (Al : Option Addr) (cl : Nat) (ll : List Int) (n : Int) (w : World)
theorem ValidateR_any (hrx0 : Kd.C (Kd.int .i64) w Ax0 lx0.length lx0) (hcx0 : lx0.length ≤ cx0) (hrx1 : Kd.C (Kd.int .i64) w Ax1 lx1.length lx1) (hcx1 : lx1.length ≤ cx1) (hl0 : lx0.length ≤ 3000) (hl1 : lx1.length ≤ 3000) :
    Calls Try.prog 23 #[.agg #[.slice Ax0 lx0.length cx0, .slice Ax1 lx1.length cx1]] w fun e w' => e = .returned (.int .i64 (valE lx0 lx1)) ∧ Below w.heap.size w w' :=
  PAll.cabinetryref12_Validate.calls 8000 Ax0 cx0 lx0 Ax1 cx1 lx1 _ w hrx0 hcx0 hrx1 hcx1 (valR_f _ _ _ hl0 hl1 (Nat.le_refl _))
theorem AndR_any (hrx0 : Kd.C (Kd.int .i64) w Ax0 lx0.length lx0) (hcx0 : lx0.length ≤ cx0) (hrx1 : Kd.C (Kd.int .i64) w Ax1 lx1.length lx1) (hcx1 : lx1.length ≤ cx1) (hry0 : Kd.C (Kd.int .i64) w Ay0 ly0.length ly0) (hcy0 : ly0.length ≤ cy0) (hry1 : Kd.C (Kd.int .i64) w Ay1 ly1.length ly1) (hcy1 : ly1.length ≤ cy1) (h0 : lx0.length ≤ 3000) (h1 : lx1.length ≤ 3000) (h2 : ly0.length ≤ 3000) (h3 : ly1.length ≤ 3000) :
    Calls Try.prog 18 #[.agg #[.slice Ax0 lx0.length cx0, .slice Ax1 lx1.length cx1], .agg #[.slice Ay0 ly0.length cy0, .slice Ay1 ly1.length cy1]] w fun e w' => ∃ v0 v1 : Value, e = .returned (.tuple #[.agg #[v0, v1], .int .i64 (bothE lx0 lx1 ly0 ly1)]) ∧
      Own w' w.heap.size v0 (bothL (fun a b => a && b) lx0 lx1 ly0 ly1 lx0 ly0) ∧ Own w' w.heap.size v1 (bothL (fun a b => a && b) lx0 lx1 ly0 ly1 lx1 ly1) ∧ Below w.heap.size w w' :=
  (PAll.cabinetryref12_And.calls 8000 Ax0 cx0 lx0 Ax1 cx1 lx1 Ay0 cy0 ly0 Ay1 cy1 ly1 _ _ _ w hrx0 hcx0 hrx1 hcx1 hry0 hcy0 hry1 hcy1 (AndR_f _ _ _ _ h0 h1 h2 h3)).mono fun e w' ⟨v0, v1, he, ho0, ho1, hb⟩ => ⟨v0, v1, he, own_of_R ho0, own_of_R ho1, hb⟩
theorem OrR_any (hrx0 : Kd.C (Kd.int .i64) w Ax0 lx0.length lx0) (hcx0 : lx0.length ≤ cx0) (hrx1 : Kd.C (Kd.int .i64) w Ax1 lx1.length lx1) (hcx1 : lx1.length ≤ cx1) (hry0 : Kd.C (Kd.int .i64) w Ay0 ly0.length ly0) (hcy0 : ly0.length ≤ cy0) (hry1 : Kd.C (Kd.int .i64) w Ay1 ly1.length ly1) (hcy1 : ly1.length ≤ cy1) (h0 : lx0.length ≤ 3000) (h1 : lx1.length ≤ 3000) (h2 : ly0.length ≤ 3000) (h3 : ly1.length ≤ 3000) :
    Calls Try.prog 20 #[.agg #[.slice Ax0 lx0.length cx0, .slice Ax1 lx1.length cx1], .agg #[.slice Ay0 ly0.length cy0, .slice Ay1 ly1.length cy1]] w fun e w' => ∃ v0 v1 : Value, e = .returned (.tuple #[.agg #[v0, v1], .int .i64 (bothE lx0 lx1 ly0 ly1)]) ∧
      Own w' w.heap.size v0 (bothL (fun a b => a || b) lx0 lx1 ly0 ly1 lx0 ly0) ∧ Own w' w.heap.size v1 (bothL (fun a b => a || b) lx0 lx1 ly0 ly1 lx1 ly1) ∧ Below w.heap.size w w' :=
  (PAll.cabinetryref12_Or.calls 8000 Ax0 cx0 lx0 Ax1 cx1 lx1 Ay0 cy0 ly0 Ay1 cy1 ly1 _ _ _ w hrx0 hcx0 hrx1 hcx1 hry0 hcy0 hry1 hcy1 (OrR_f _ _ _ _ h0 h1 h2 h3)).mono fun e w' ⟨v0, v1, he, ho0, ho1, hb⟩ => ⟨v0, v1, he, own_of_R ho0, own_of_R ho1, hb⟩
theorem NotR_any (hrx0 : Kd.C (Kd.int .i64) w Ax0 lx0.length lx0) (hcx0 : lx0.length ≤ cx0) (hrx1 : Kd.C (Kd.int .i64) w Ax1 lx1.length lx1) (hcx1 : lx1.length ≤ cx1) (h0 : lx0.length ≤ 3000) (h1 : lx1.length ≤ 3000) :
    Calls Try.prog 27 #[.agg #[.slice Ax0 lx0.length cx0, .slice Ax1 lx1.length cx1], .int .i64 n] w fun e w' => ∃ v0 v1 : Value, e = .returned (.tuple #[.agg #[v0, v1], .int .i64 (notE lx0 lx1 n)]) ∧
      Own w' w.heap.size v0 (notL lx0 lx1 n lx1) ∧ Own w' w.heap.size v1 (notL lx0 lx1 n lx0) ∧ Below w.heap.size w w' :=
  (PAll.cabinetryref12_Not.calls 8000 Ax0 cx0 lx0 Ax1 cx1 lx1 n _ _ _ w hrx0 hcx0 hrx1 hcx1 (NotR_f _ _ _ h0 h1)).mono fun e w' ⟨v0, v1, he, ho0, ho1, hb⟩ => ⟨v0, v1, he, own_of_R ho0, own_of_R ho1, hb⟩
theorem TrueR_any (hrx0 : Kd.C (Kd.int .i64) w Ax0 lx0.length lx0) (hcx0 : lx0.length ≤ cx0) (hrx1 : Kd.C (Kd.int .i64) w Ax1 lx1.length lx1) (hcx1 : lx1.length ≤ cx1) (hrl : Kd.C (Kd.int .i64) w Al ll.length ll) (hcl : ll.length ≤ cl) (h0 : lx0.length ≤ 3000) (h1 : lx1.length ≤ 3000) (h2 : ll.length ≤ 3000) :
    Calls Try.prog 31 #[.agg #[.slice Ax0 lx0.length cx0, .slice Ax1 lx1.length cx1], .slice Al ll.length cl] w fun e w' => e = .returned (.tuple #[.bool (trueB lx0 lx1 ll), .int .i64 (trueE lx0 lx1 ll)]) ∧ Below w.heap.size w w' :=
  PAll.cabinetryref12_True.calls 8000 Ax0 cx0 lx0 Ax1 cx1 lx1 Al cl ll _ _ w hrx0 hcx0 hrx1 hcx1 hrl hcl (TrueR_f _ _ _ h0 h1 h2)
def overB (l0 l1 : List Int) : Bool := decide ((l0.length : Int) > 3000) || decide ((l1.length : Int) > 3000)
theorem over_f (l0 l1 : List Int) : PAll.cabinetrylaw12_over.f l0 l1 = some (overB l0 l1) := by
  unfold PAll.cabinetrylaw12_over.f overB
  by_cases h : (l0.length : Int) > 3000
  · rw [if_pos h, decide_eq_true h]; rfl
  · rw [if_neg h, decide_eq_false h]; rfl
theorem over_any (hrx0 : Kd.C (Kd.int .i64) w Ax0 lx0.length lx0) (hcx0 : lx0.length ≤ cx0) (hrx1 : Kd.C (Kd.int .i64) w Ax1 lx1.length lx1) (hcx1 : lx1.length ≤ cx1) : Calls Try.prog 16 #[.agg #[.slice Ax0 lx0.length cx0, .slice Ax1 lx1.length cx1]] w fun e w' => e = .returned (.bool (overB lx0 lx1)) ∧ Below w.heap.size w w' :=
  PAll.cabinetrylaw12_over.calls Ax0 cx0 lx0 Ax1 cx1 lx1 _ w hrx0 hcx0 hrx1 hcx1 (over_f _ _)
theorem overB_false {l0 l1 : List Int} (h : overB l0 l1 = false) : l0.length ≤ 3000 ∧ l1.length ≤ 3000 := by
  unfold overB at h
  simp at h
  omega
end
end Go.Proofs.Ytpbdlkbiiglkdaa

/- The law BitsJoins, walked. -/
set_option linter.unusedVariables false
set_option linter.unusedSimpArgs false
namespace Go.Proofs.Ytpbdlkbiiglkdaa
open Go.RowKit Go.Proofs.YtpbdlkbiiglkdaaW.PrintWords Go.Proofs.YtpbdlkbiiglkdaaW.PrintLast Go.Proofs.YtpbdlkbiiglkdaaW.PrintMore Go.Proofs.Cab

/-- Knowledge in a box of its own. -/
def Held (w : World) (b : Nat) (v0 v1 : Value) : Prop := w.heap[b]? = some (.cells #[v0, v1] 29 (0, 0)) ∧ b < w.heap.size
theorem Held.new (w : World) (v0 v1 : Value) : Held (w.alloc (.cells #[v0, v1] 29)) w.heap.size v0 v1 := ⟨blk_new _ _, by rw [alloc_size]; omega⟩
theorem Held.below {w w1 : World} {b : Nat} {v0 v1 : Value} (h : Held w b v0 v1) (hb : Below w.heap.size w w1) : Held w1 b v0 v1 := ⟨(hb.block b h.2).trans h.1, Nat.lt_of_lt_of_le h.2 hb.size⟩
theorem Held.alloc {w : World} {b : Nat} {v0 v1 : Value} (h : Held w b v0 v1) (o : Obj) : Held (w.alloc o) b v0 v1 := h.below (below_alloc (Below.refl _ _) _)
theorem Held.c0 {w : World} {b : Nat} {v0 v1 : Value} (h : Held w b v0 v1) : w.cell? ⟨b, 0, none⟩ = some v0 := (blk_cell h.1 0).trans rfl
theorem Held.c1 {w : World} {b : Nat} {v0 v1 : Value} (h : Held w b v0 v1) : w.cell? ⟨b, 1, none⟩ = some v1 := (blk_cell h.1 1).trans rfl
theorem Held.at_ {w : World} {b n : Nat} {v0 v1 : Value} (h : Held w b v0 v1) (e : b = n) : Held w n v0 v1 := e ▸ h

end Go.Proofs.Ytpbdlkbiiglkdaa

/- The complement of an intersection is the union of the complements; in plain Lean. -/
set_option linter.unusedVariables false
set_option linter.unusedSimpArgs false
namespace Go.Proofs.Ytpbdlkbiiglkdaa
open Go.RowKit Go.Proofs.YtpbdlkbiiglkdaaW.PrintWords Go.Proofs.YtpbdlkbiiglkdaaW.PrintLast Go.Proofs.YtpbdlkbiiglkdaaW.PrintMore Go.Proofs.Cab
theorem setB_of : ∀ (n : Int) (l : List Int), l.Pairwise (· < ·) → (∀ x ∈ l, 1 ≤ x ∧ x ≤ n) → setB n l = true := by
  have key : ∀ (n : Int) (l : List Int) (p : Int), l.Pairwise (· < ·) → (∀ x ∈ l, p < x ∧ x ≤ n) → setFrom n p l = true := by
    intro n l
    induction l with
    | nil => exact fun _ _ _ => rfl
    | cons x l ih =>
      intro p hp hx
      obtain ⟨h1, h2⟩ := List.pairwise_cons.1 hp
      simp only [setFrom, Bool.and_eq_true, decide_eq_true_eq]
      exact ⟨(hx x List.mem_cons_self).1, (hx x List.mem_cons_self).2, ih x h2 fun y hy => ⟨h1 y hy, (hx y (List.mem_cons_of_mem _ hy)).2⟩⟩
  exact fun n l hp hx => key n l 0 hp fun x hx' => by have := hx x hx'; omega
theorem valE_iff {s m : List Int} : valE s m = 0 ↔ setB 300 s = true ∧ setB 300 m = true ∧ ∀ x ∈ s, x ∈ m := by
  constructor
  · intro h
    obtain ⟨a, b, c⟩ := valE_sets h
    rw [lessF_filter (set_asc a) (set_asc b), filter_mem_nil] at c
    exact ⟨a, b, c⟩
  · rintro ⟨a, b, c⟩
    unfold valE
    rw [if_pos ⟨a, b, by rw [lessF_filter (set_asc a) (set_asc b), filter_mem_nil]; exact c⟩]
theorem notE_iff {s m : List Int} {n : Int} : notE s m n = 0 ↔ valE s m = 0 ∧ (0 ≤ n ∧ n ≤ 300) ∧ setB n m = true := by
  unfold notE
  by_cases h : valE s m = 0
  · rw [if_pos h]
    constructor
    · intro e
      split at e
      · rename_i hc
        exact ⟨h, countB_range hc.1, hc.2⟩
      · cases e
    · rintro ⟨_, c, d⟩
      rw [if_pos ⟨by unfold countB; simp [c], d⟩]
  · rw [if_neg h]
    exact ⟨fun e => absurd e h, fun e => absurd e.1 h⟩
theorem lessF_spec {l g : List Int} (hl : l.Pairwise (· < ·)) (hg : g.Pairwise (· < ·)) : (lessF l g).Pairwise (· < ·) ∧ ∀ z, z ∈ lessF l g ↔ z ∈ l ∧ z ∉ g := by
  rw [lessF_filter hl hg]
  exact ⟨filter_asc _ hl, fun z => by simp⟩
theorem notL_spec {s m l : List Int} {n : Int} (h : notE s m n = 0) (hl : l.Pairwise (· < ·)) : (notL s m n l).Pairwise (· < ·) ∧ ∀ z, z ∈ notL s m n l ↔ (1 ≤ z ∧ z ≤ n) ∧ z ∉ l := by
  unfold notL
  rw [if_pos h]
  obtain ⟨a, b⟩ := lessF_spec (upTo_asc n) hl
  exact ⟨a, fun z => by rw [b, upTo_mem]⟩
theorem bothL_spec (f : Bool → Bool → Bool) (hf : f false false = false) {s m t u a b : List Int} (h1 : valE s m = 0) (h2 : valE t u = 0) (ha : a.Pairwise (· < ·)) (hb : b.Pairwise (· < ·)) :
    (bothL f s m t u a b).Pairwise (· < ·) ∧ ∀ z, z ∈ bothL f s m t u a b ↔ f (decide (z ∈ a)) (decide (z ∈ b)) = true := by
  unfold bothL
  rw [if_pos ⟨h1, h2⟩]
  obtain ⟨x, y⟩ := joinF_spec f hf _ a b rfl ha hb
  exact ⟨y, x⟩
theorem morgan_law {x0 x1 y0 y1 La0 La1 Lb0 Lb1 Lp0 Lp1 Lc0 Lc1 Ld0 Ld1 Le0 Le1 : List Int} {n : Int} (hE : notE x0 x1 n = 0) (hF : notE y0 y1 n = 0)
    (hLa0 : notL x0 x1 n x1 = La0) (hLa1 : notL x0 x1 n x0 = La1) (hLb0 : notL y0 y1 n y1 = Lb0) (hLb1 : notL y0 y1 n y0 = Lb1)
    (hLp0 : bothL (fun a b => a && b) x0 x1 y0 y1 x0 y0 = Lp0) (hLp1 : bothL (fun a b => a && b) x0 x1 y0 y1 x1 y1 = Lp1)
    (hLc0 : notL Lp0 Lp1 n Lp1 = Lc0) (hLc1 : notL Lp0 Lp1 n Lp0 = Lc1)
    (hLd0 : bothL (fun a b => a || b) La0 La1 Lb0 Lb1 La0 Lb0 = Ld0) (hLd1 : bothL (fun a b => a || b) La0 La1 Lb0 Lb1 La1 Lb1 = Ld1)
    (hLe0 : notL La0 La1 n La1 = Le0) (hLe1 : notL La0 La1 n La0 = Le1) : Lc0 = Ld0 ∧ Lc1 = Ld1 ∧ Le0 = x0 ∧ Le1 = x1 := by
  obtain ⟨ex, hn, sx⟩ := notE_iff.1 hE
  obtain ⟨ey, _, sy⟩ := notE_iff.1 hF
  obtain ⟨ax0, ax1, sub1⟩ := valE_iff.1 ex
  obtain ⟨ay0, ay1, sub2⟩ := valE_iff.1 ey
  obtain ⟨pa0, ma0⟩ := notL_spec hE (set_asc ax1)
  obtain ⟨pa1, ma1⟩ := notL_spec hE (set_asc ax0)
  obtain ⟨pb0, mb0⟩ := notL_spec hF (set_asc ay1)
  obtain ⟨pb1, mb1⟩ := notL_spec hF (set_asc ay0)
  rw [hLa0] at pa0 ma0
  rw [hLa1] at pa1 ma1
  rw [hLb0] at pb0 mb0
  rw [hLb1] at pb1 mb1
  obtain ⟨pp0, mp0⟩ := bothL_spec (fun a b => a && b) rfl ex ey (set_asc ax0) (set_asc ay0)
  obtain ⟨pp1, mp1⟩ := bothL_spec (fun a b => a && b) rfl ex ey (set_asc ax1) (set_asc ay1)
  rw [hLp0] at pp0 mp0
  rw [hLp1] at pp1 mp1
  simp only [Bool.and_eq_true, decide_eq_true_eq] at mp0 mp1
  have hx1 := set_mem sx
  have hy1 := set_mem sy
  have vp : valE Lp0 Lp1 = 0 := valE_iff.2 ⟨setB_of _ _ pp0 fun z hz => by have := set_mem ax0 z ((mp0 z).1 hz).1; omega, setB_of _ _ pp1 fun z hz => by have := set_mem ax1 z ((mp1 z).1 hz).1; omega,
    fun z hz => (mp1 z).2 ⟨sub1 z ((mp0 z).1 hz).1, sub2 z ((mp0 z).1 hz).2⟩⟩
  have eP : notE Lp0 Lp1 n = 0 := notE_iff.2 ⟨vp, hn, setB_of _ _ pp1 fun z hz => hx1 z ((mp1 z).1 hz).1⟩
  obtain ⟨pc0, mc0⟩ := notL_spec eP pp1
  obtain ⟨pc1, mc1⟩ := notL_spec eP pp0
  rw [hLc0] at pc0 mc0
  rw [hLc1] at pc1 mc1
  have va : valE La0 La1 = 0 := valE_iff.2 ⟨setB_of _ _ pa0 fun z hz => by have := (ma0 z).1 hz; omega, setB_of _ _ pa1 fun z hz => by have := (ma1 z).1 hz; omega,
    fun z hz => (ma1 z).2 ⟨((ma0 z).1 hz).1, fun e => ((ma0 z).1 hz).2 (sub1 z e)⟩⟩
  have vb : valE Lb0 Lb1 = 0 := valE_iff.2 ⟨setB_of _ _ pb0 fun z hz => by have := (mb0 z).1 hz; omega, setB_of _ _ pb1 fun z hz => by have := (mb1 z).1 hz; omega,
    fun z hz => (mb1 z).2 ⟨((mb0 z).1 hz).1, fun e => ((mb0 z).1 hz).2 (sub2 z e)⟩⟩
  obtain ⟨pd0, md0⟩ := bothL_spec (fun a b => a || b) rfl va vb pa0 pb0
  obtain ⟨pd1, md1⟩ := bothL_spec (fun a b => a || b) rfl va vb pa1 pb1
  rw [hLd0] at pd0 md0
  rw [hLd1] at pd1 md1
  simp only [Bool.or_eq_true, decide_eq_true_eq] at md0 md1
  have eA : notE La0 La1 n = 0 := notE_iff.2 ⟨va, hn, setB_of _ _ pa1 fun z hz => ((ma1 z).1 hz).1⟩
  obtain ⟨pe0, me0⟩ := notL_spec eA pa1
  obtain ⟨pe1, me1⟩ := notL_spec eA pa0
  rw [hLe0] at pe0 me0
  rw [hLe1] at pe1 me1
  refine ⟨sorted_ext pc0 pd0 fun z => ?_, sorted_ext pc1 pd1 fun z => ?_, sorted_ext pe0 (set_asc ax0) fun z => ?_, sorted_ext pe1 (set_asc ax1) fun z => ?_⟩
  · rw [mc0, md0, ma0, mb0, mp1]
    by_cases a : z ∈ x1 <;> by_cases b : z ∈ y1 <;> simp [a, b]
  · rw [mc1, md1, ma1, mb1, mp0]
    by_cases a : z ∈ x0 <;> by_cases b : z ∈ y0 <;> simp [a, b]
  · rw [me0, ma1]
    constructor
    · rintro ⟨a, b⟩
      exact Classical.byContradiction fun c => b ⟨a, c⟩
    · intro a
      exact ⟨hx1 z (sub1 z a), fun b => b.2 a⟩
  · rw [me1, ma0]
    constructor
    · rintro ⟨a, b⟩
      exact Classical.byContradiction fun c => b ⟨a, c⟩
    · intro a
      exact ⟨hx1 z a, fun b => b.2 a⟩
end Go.Proofs.Ytpbdlkbiiglkdaa

/- Doubt and True by contract. -/
set_option linter.unusedVariables false
set_option linter.unusedSimpArgs false
namespace Go.Proofs.Ytpbdlkbiiglkdaa
open Go.RowKit Go.Proofs.YtpbdlkbiiglkdaaW.PrintWords Go.Proofs.YtpbdlkbiiglkdaaW.PrintLast Go.Proofs.YtpbdlkbiiglkdaaW.PrintMore Go.Proofs.Cab
theorem isSetB_any (A0 : Option Addr) (c0 : Nat) (l0 : List Int) (n : Int) (w : World) (hr0 : Kd.C (Kd.int .i64) w A0 l0.length l0) (hc0 : l0.length ≤ c0) :
    Calls Try.prog 47 #[.slice A0 l0.length c0, .int .i64 n] w fun e w' => e = .returned (.bool (setB n l0)) ∧ Below w.heap.size w w' :=
  (isSet_any A0 c0 l0 n w hr0 hc0).mono fun e w' ⟨he, m, hm⟩ => ⟨he, hm ▸ pw_below_drewN (Below.refl _ _) m⟩
set_option maxHeartbeats 4000000 in
set_option maxRecDepth 100000 in
theorem True_any (Ax0 : Option Addr) (cx0 : Nat) (lx0 : List Int) (Ax1 : Option Addr) (cx1 : Nat) (lx1 : List Int) (Al : Option Addr) (cl : Nat) (ll : List Int) (w : World) (hrx0 : Kd.C (Kd.int .i64) w Ax0 lx0.length lx0) (hcx0 : lx0.length ≤ cx0) (hrx1 : Kd.C (Kd.int .i64) w Ax1 lx1.length lx1) (hcx1 : lx1.length ≤ cx1) (hrl : Kd.C (Kd.int .i64) w Al ll.length ll) (hcl : ll.length ≤ cl) :
    Calls Try.prog 30 #[.agg #[.slice Ax0 lx0.length cx0, .slice Ax1 lx1.length cx1], .slice Al ll.length cl] w fun e w' => e = .returned (.tuple #[.bool (trueB lx0 lx1 ll), .int .i64 (trueE lx0 lx1 ll)]) ∧ Below w.heap.size w w' := by
  have HRx0 := Aside0.mk hrx0
  have HCx0 := Aside0.mk hcx0
  have HRx1 := Aside0.mk hrx1
  have HCx1 := Aside0.mk hcx1
  have HRl := Aside0.mk hrl
  have HCl := Aside0.mk hcl
  clear hrx0 hcx0 hrx1 hcx1 hrl hcl
  have hu22 := Try.underlying22
  have hu29 := Try.underlying29
  have HB := Aside0.mk (Below.refl w.heap.size w)
  go_enter Try.func30, Try.ntmps30
  obtain ⟨w1, hW1⟩ : ∃ x, w.alloc (.cells #[.slice Ax0 lx0.length cx0, .slice Ax1 lx1.length cx1] 29) = x := ⟨_, rfl⟩
  have hb : Below w.heap.size w w1 := by rw [← hW1]; exact below_alloc (Below.refl _ _) _
  replace HB := Aside0.mk (below_step HB.out hb)
  replace HRx0 := Aside0.mk (Kd.C_below HRx0.out hb)
  replace HRx1 := Aside0.mk (Kd.C_below HRx1.out hb)
  replace HRl := Aside0.mk (Kd.C_below HRl.out hb)
  clear hb
  have KX : Aside0 (Held w1 (w.heap.size) (.slice Ax0 lx0.length cx0) (.slice Ax1 lx1.length cx1)) := ⟨by rw [← hW1]; exact Held.new _ _ _⟩
  have hX0 := KX.out.c0
  rw [← hW1] at hX0
  have hX1 := KX.out.c1
  rw [← hW1] at hX1
  have AhW1 := Aside0.mk hW1
  clear hW1
  go_wp2_with fail
  clear hX0 hX1
  rw [AhW1.out]
  clear AhW1
  refine (Validate_any Ax0 cx0 lx0 Ax1 cx1 lx1 _ HRx0.out HCx0.out HRx1.out HCx1.out).mono ?_
  rintro e w2 ⟨rfl, hb⟩
  replace HB := Aside0.mk (below_step HB.out hb)
  replace HRx0 := Aside0.mk (Kd.C_below HRx0.out hb)
  replace HRx1 := Aside0.mk (Kd.C_below HRx1.out hb)
  replace HRl := Aside0.mk (Kd.C_below HRl.out hb)
  replace KX := Aside0.mk (KX.out.below hb)
  clear hb
  by_cases hv : valE lx0 lx1 = 0
  ·
    have hv1 : (valE lx0 lx1 == 0) = true := by simpa using hv
    have hv2 : (valE lx0 lx1 != 0) = false := by simpa using hv
    have HV := Aside0.mk hv
    clear hv
    have HN := Aside0.mk (valE_len HV.out)
    go_wp2_with fail
    refine (isSetB_any Al cl ll 300 _ HRl.out HCl.out).mono ?_
    rintro e w3 ⟨rfl, hb⟩
    replace HB := Aside0.mk (below_step HB.out hb)
    replace HRx0 := Aside0.mk (Kd.C_below HRx0.out hb)
    replace HRx1 := Aside0.mk (Kd.C_below HRx1.out hb)
    replace HRl := Aside0.mk (Kd.C_below HRl.out hb)
    replace KX := Aside0.mk (KX.out.below hb)
    clear hb
    cases hs : setB 300 ll
    · have HS := Aside0.mk hs
      clear hs
      go_wp2_with fail
      go_ret2
      exact ⟨by rw [trueB, trueE, if_pos HV.out, HS.out]; rfl, HB.out⟩
    · have HS := Aside0.mk hs
      clear hs
      have HM := Aside0.mk (setB_length HS.out)
      have hX0 := KX.out.c0
      have hX1 := KX.out.c1
      go_wp2_with fail
      clear hX0 hX1
      refine (joined_calls 50 (fun a b => a && !b) enters50 inFirst_any Ax0 cx0 lx0 Al cl ll _ HRx0.out HCx0.out HRl.out HCl.out (by have := HN.out; omega) (by have := HM.out; omega)).mono ?_
      rintro e w4 ⟨v, rfl, ho, hb⟩
      replace HB := Aside0.mk (below_step HB.out hb)
      replace HRx0 := Aside0.mk (Kd.C_below HRx0.out hb)
      replace HRx1 := Aside0.mk (Kd.C_below HRx1.out hb)
      replace HRl := Aside0.mk (Kd.C_below HRl.out hb)
      replace KX := Aside0.mk (KX.out.below hb)
      clear hb
      have hl : joinF (fun a b => a && !b) lx0 ll = lessF lx0 ll := rfl
      rw [hl] at ho
      clear hl
      obtain ⟨A5, c5, rfl, _⟩ := Own.slice ho
      clear ho
      cases hL : lessF lx0 ll
      · have HL := Aside0.mk hL
        clear hL
        have hX0 := KX.out.c0
        have hX1 := KX.out.c1
        go_wp2_with fail
        clear hX0 hX1
        refine (joined_calls 50 (fun a b => a && !b) enters50 inFirst_any Al cl ll Ax1 cx1 lx1 _ HRl.out HCl.out HRx1.out HCx1.out (by have := HM.out; omega) (by have := HN.out; omega)).mono ?_
        rintro e w5 ⟨v, rfl, ho, hb⟩
        replace HB := Aside0.mk (below_step HB.out hb)
        replace HRx0 := Aside0.mk (Kd.C_below HRx0.out hb)
        replace HRx1 := Aside0.mk (Kd.C_below HRx1.out hb)
        replace HRl := Aside0.mk (Kd.C_below HRl.out hb)
        replace KX := Aside0.mk (KX.out.below hb)
        clear hb
        have hl : joinF (fun a b => a && !b) ll lx1 = lessF ll lx1 := rfl
        rw [hl] at ho
        clear hl
        obtain ⟨A6, c6, rfl, _⟩ := Own.slice ho
        clear ho
        cases hM : lessF ll lx1
        all_goals
          have HK := Aside0.mk hM
          clear hM
          go_wp2_with fail
          go_ret2
          exact ⟨by first | (simp [trueB, trueE, HV.out, HS.out, HL.out, HK.out]; done) | (simp [trueB, trueE, HV.out, HS.out, HL.out, HK.out]; omega), HB.out⟩
      · have HL := Aside0.mk hL
        clear hL
        go_wp2_with fail
        go_ret2
        exact ⟨by simp [trueB, trueE, HV.out, HS.out, HL.out], HB.out⟩
  ·
    have hv1 : (valE lx0 lx1 == 0) = false := by simpa using hv
    have hv2 : (valE lx0 lx1 != 0) = true := by simpa using hv
    have HV := Aside0.mk hv
    clear hv
    go_wp2_with fail
    go_ret2
    exact ⟨by rw [trueB, trueE, if_neg HV.out, if_neg HV.out]; rfl, HB.out⟩
end Go.Proofs.Ytpbdlkbiiglkdaa

/- Settle, and the reference's Known and Settle, by contract. -/
set_option linter.unusedVariables false
set_option linter.unusedSimpArgs false
namespace Go.Proofs.Ytpbdlkbiiglkdaa
open Go.RowKit Go.Proofs.YtpbdlkbiiglkdaaW.PrintWords Go.Proofs.YtpbdlkbiiglkdaaW.PrintLast Go.Proofs.YtpbdlkbiiglkdaaW.PrintMore Go.Proofs.Cab
def settleE (l0 l1 y : List Int) : Int := if valE l0 l1 = 0 then (if setB 300 y = true then knownE (anyF l0 (bothF l1 y)) else 1) else valE l0 l1
def settleL (l0 l1 y : List Int) : List Int := if valE l0 l1 = 0 ∧ setB 300 y = true then knownL (anyF l0 (bothF l1 y)) else []
theorem bothF_set {l y : List Int} (hl : setB 300 l = true) (hy : setB 300 y = true) : setB 300 (bothF l y) = true := by
  rw [bothF_filter (set_asc hl) (set_asc hy)]
  exact setB_of _ _ (filter_asc _ (set_asc hl)) fun x hx => set_mem hl x (List.mem_filter.1 hx).1
theorem isSetR_any (A0 : Option Addr) (c0 : Nat) (l0 : List Int) (w : World) (hr0 : Kd.C (Kd.int .i64) w A0 l0.length l0) (hc0 : l0.length ≤ c0) (h : l0.length ≤ 3000) :
    Calls Try.prog 51 #[.slice A0 l0.length c0] w fun e w' => e = .returned (.bool (setB 300 l0)) ∧ Below w.heap.size w w' :=
  (PAll.cabinetryref12_IsSet.calls 8000 A0 c0 l0 _ w hr0 hc0 (isSetR_f _ _ (by omega) (by omega))).mono fun e w' ⟨he, m, hm⟩ => ⟨he, hm ▸ pw_below_drewN (Below.refl _ _) m⟩
theorem inBothR_any (Ax : Option Addr) (cx : Nat) (lx : List Int) (Ay : Option Addr) (cy : Nat) (ly : List Int) (w : World) (hrx : Kd.C (Kd.int .i64) w Ax lx.length lx) (hcx : lx.length ≤ cx) (hry : Kd.C (Kd.int .i64) w Ay ly.length ly) (hcy : ly.length ≤ cy) (hx : lx.length ≤ 3000) (hy : ly.length ≤ 3000) :
    Calls Try.prog 55 #[.slice Ax lx.length cx, .slice Ay ly.length cy] w fun e w' => ∃ v : Value, e = .returned v ∧ Own w' w.heap.size v (lx.filter fun x => decide (x ∈ ly)) ∧ Below w.heap.size w w' :=
  PAll.cabinetryref12_inBoth.calls 8000 Ax cx lx Ay cy ly _ w hrx hcx hry hcy (inBothR_f _ _ _ hx hy (Nat.le_refl _))
theorem eitherR_any (Ax : Option Addr) (cx : Nat) (lx : List Int) (Ay : Option Addr) (cy : Nat) (ly : List Int) (w : World) (hrx : Kd.C (Kd.int .i64) w Ax lx.length lx) (hcx : lx.length ≤ cx) (hry : Kd.C (Kd.int .i64) w Ay ly.length ly) (hcy : ly.length ≤ cy) (hx : lx.length ≤ 3000) (hy : ly.length ≤ 3000) :
    Calls Try.prog 57 #[.slice Ax lx.length cx, .slice Ay ly.length cy] w fun e w' => ∃ v : Value, e = .returned v ∧ Own w' w.heap.size v ((upTo 300).filter fun x => decide (x ∈ lx) || decide (x ∈ ly)) ∧ Below w.heap.size w w' :=
  PAll.cabinetryref12_either.calls 8000 Ax cx lx Ay cy ly _ w hrx hcx hry hcy (eitherR_f _ _ _ hx hy (Nat.le_refl _))
set_option maxHeartbeats 4000000 in
set_option maxRecDepth 100000 in
theorem KnownR_any (A0 : Option Addr) (c0 : Nat) (l0 : List Int) (w : World) (hr0 : Kd.C (Kd.int .i64) w A0 l0.length l0) (hc0 : l0.length ≤ c0) (hl : l0.length ≤ 3000) :
    Calls Try.prog 38 #[.slice A0 l0.length c0] w fun e w' => ∃ v0 v1 : Value, e = .returned (.tuple #[.agg #[v0, v1], .int .i64 (knownE l0)]) ∧ Own w' w.heap.size v0 (knownL l0) ∧ Own w' w.heap.size v1 (knownL l0) ∧ Below w.heap.size w w' := by
  have HR0 := Aside0.mk hr0
  have HC0 := Aside0.mk hc0
  clear hr0 hc0
  have hu29 := Try.underlying29
  have HL := Aside0.mk hl
  clear hl
  go_enter Try.func38, Try.ntmps38
  obtain ⟨w1, hW⟩ : ∃ x, w.alloc (.cells #[.slice none 0 0, .slice none 0 0] 29) = x := ⟨_, rfl⟩
  have KZ : Aside0 (Held w1 w.heap.size (.slice none 0 0) (.slice none 0 0)) := ⟨by rw [← hW]; exact Held.new _ _ _⟩
  have HB : Aside0 (Below w.heap.size w w1) := ⟨by rw [← hW]; exact below_alloc (Below.refl _ _) _⟩
  have HW := Aside0.mk hW
  clear hW
  go_wp2_with fail
  rw [HW.out]
  refine (isSetR_any A0 c0 l0 _ (Kd.C_below HR0.out HB.out) HC0.out HL.out).mono ?_
  rintro e w2 ⟨rfl, hb⟩
  replace HB := Aside0.mk (below_step HB.out hb)
  replace KZ := Aside0.mk (KZ.out.below hb)
  have hz0 := KZ.out.c0
  have hz1 := KZ.out.c1
  have hf0 := blk_frozen KZ.out.1 0
  have hf1 := blk_frozen KZ.out.1 1
  clear hb
  cases hs : setB 300 l0
  · have HS := Aside0.mk hs
    clear hs
    go_wp2_with fail
    refine bodyPost_ret (results_ct rfl _ _ (w.heap.size) 29 #[.slice none 0 0, .slice none 0 0] (0, 0) _ rfl (blk_put (cs := #[.slice none 0 0, .slice none 0 0]) (blk_put (cs := #[.slice none 0 0, .slice none 0 0]) KZ.out.1 0 _ rfl) 1 _ rfl) Try.underlying29 rfl (by kernel_rfl)) rfl ?_
    refine ⟨.slice none 0 0, .slice none 0 0, by rw [knownE, if_neg (by simp [HS.out])]; rfl, ?_, ?_, ?_⟩
    · simp only [knownL, HS.out]; exact Own.nil _ _
    · simp only [knownL, HS.out]; exact Own.nil _ _
    · exact below_set (below_set HB.out (by omega)) (by omega)
  · have HS := Aside0.mk hs
    clear hs hz0 hz1 hf0 hf1
    go_wp2_with (first
      | (at_builtin; refine appRow (w0 := w2) w2.heap.size (by rfl) _ _ (by rfl) (.slice none 0 0) [] l0 A0 l0.length c0 (by rfl) (by rfl) (Own.nil _ _) (Kd.C_below HR0.out HB.out) (Below.refl _ _) (Nat.le_refl _) (by have := HL.out; simp; omega) ?_; intro v0 w3 ho hb; have HO := Aside0.mk ho; have HB3 := Aside0.mk hb; obtain ⟨A5, c5, rfl, _⟩ := Own.slice ho; clear ho hb)
      | (at_builtin; refine appRow (w0 := w3) w3.heap.size (by rfl) _ _ (by rfl) (.slice none 0 0) [] l0 A0 l0.length c0 (by rfl) (by rfl) (Own.nil _ _) (Kd.C_below HR0.out (below_step HB.out HB3.out)) (Below.refl _ _) (Nat.le_refl _) (by have := HL.out; simp; omega) ?_; intro v1 w4 ho hb; have HO1 := Aside0.mk ho; have HB4 := Aside0.mk hb; obtain ⟨A6, c6, rfl, _⟩ := Own.slice ho; have KZ4 := Aside0.mk ((KZ.out.below HB3.out).below hb); have HO2 := Aside0.mk (HO.out.below hb); have hz0 := KZ4.out.c0; have hz1 := KZ4.out.c1; have hf0 := blk_frozen KZ4.out.1 0; have hf1 := blk_frozen KZ4.out.1 1; clear ho hb))
    have hz := KZ.out.2
    have HZ := Aside0.mk hz
    refine bodyPost_ret (results_ct rfl _ _ (w.heap.size) 29 #[_, _] (0, 0) _ rfl (blk_put (cs := #[_, .slice none 0 0]) (blk_put (cs := #[.slice none 0 0, .slice none 0 0]) KZ4.out.1 0 _ rfl) 1 _ rfl) Try.underlying29 rfl (by kernel_rfl)) rfl ?_
    refine ⟨_, _, by rw [knownE, if_pos HS.out]; rfl, ?_, ?_, ?_⟩
    · simp only [knownL, HS.out, if_true]; exact Own.lower (Own.set (Own.set HO2.out hz _ _) hz _ _) (by omega)
    · simp only [knownL, HS.out, if_true]; exact Own.lower (Own.set (Own.set HO1.out (Nat.lt_of_lt_of_le hz HB3.out.size) _ _) (Nat.lt_of_lt_of_le hz HB3.out.size) _ _) (by have := HB3.out.size; omega)
    · exact below_set (below_set (below_step (below_step HB.out HB3.out) HB4.out) (by omega)) (by omega)
end Go.Proofs.Ytpbdlkbiiglkdaa

/- Ranges, and its reference, by contract. -/
set_option linter.unusedVariables false
set_option linter.unusedSimpArgs false
namespace Go.Proofs.Ytpbdlkbiiglkdaa
open Go.RowKit Go.Proofs.YtpbdlkbiiglkdaaW.PrintWords Go.Proofs.YtpbdlkbiiglkdaaW.PrintLast Go.Proofs.YtpbdlkbiiglkdaaW.PrintMore Go.Proofs.Cab
def rangesL (l : List Int) : List (Int × Int) := if setB 300 l = true then rangesF l else []
set_option maxHeartbeats 4000000 in
set_option maxRecDepth 100000 in
theorem Ranges_any (Ax : Option Addr) (cx : Nat) (lx : List Int) (w : World) (hrx : Kd.C (Kd.int .i64) w Ax lx.length lx) (hcx : lx.length ≤ cx) : Calls Try.prog 24 #[.slice Ax lx.length cx] w fun e w' => ∃ v : Value, e = .returned (.tuple #[v, .int .i64 (knownE lx)]) ∧ Own2 w' w.heap.size v (rangesL lx) ∧ Below w.heap.size w w' := by
  have HRx := Aside0.mk hrx
  have HCx := Aside0.mk hcx
  clear hrx hcx
  go_enter Try.func24, Try.ntmps24
  go_wp2_with fail
  refine (isSetB_any Ax cx lx 300 _ HRx.out HCx.out).mono ?_
  rintro e w1 ⟨rfl, hb⟩
  have HB := Aside0.mk hb
  clear hb
  cases hs : setB 300 lx
  · have HS := Aside0.mk hs
    clear hs
    go_wp2_with fail
    go_ret2
    refine ⟨_, by rw [knownE, if_neg (by rw [HS.out]; decide)]; rfl, ?_, HB.out⟩
    rw [rangesL, if_neg (by rw [HS.out]; decide)]
    exact Kd.R_nil _ _ _ _ _
  · have HS := Aside0.mk hs
    clear hs
    go_wp2_with fail
    refine (ranges_any Ax cx lx _ (Kd.C_below HRx.out HB.out) HCx.out (by have := setB_length HS.out; omega) (fun y hy => by have := set_mem HS.out y hy; omega)).mono ?_
    rintro e w2 ⟨v, rfl, ho, hb⟩
    have HO := Aside0.mk ho
    have HB2 := Aside0.mk (below_step HB.out hb)
    have HZ := Aside0.mk HB.out.size
    clear ho hb
    obtain ⟨A5, c5, rfl⟩ := Kd.R_slice HO.out
    go_wp2_with fail
    go_ret2
    refine ⟨_, by rw [knownE, if_pos HS.out]; rfl, ?_, HB2.out⟩
    rw [rangesL, if_pos HS.out]
    exact Kd.R_lower HO.out HZ.out

set_option maxHeartbeats 4000000 in
set_option maxRecDepth 100000 in
theorem RangesR_any (Ax : Option Addr) (cx : Nat) (lx : List Int) (w : World) (hrx : Kd.C (Kd.int .i64) w Ax lx.length lx) (hcx : lx.length ≤ cx) (hn : lx.length ≤ 3000) : Calls Try.prog 25 #[.slice Ax lx.length cx] w fun e w' => ∃ v : Value, e = .returned (.tuple #[v, .int .i64 (knownE lx)]) ∧ Own2 w' w.heap.size v (rangesL lx) ∧ Below w.heap.size w w' := by
  have HRx := Aside0.mk hrx
  have HCx := Aside0.mk hcx
  clear hrx hcx
  have HN := Aside0.mk hn
  clear hn
  have hu38 := Try.underlying38
  go_enter Try.func25, Try.ntmps25
  go_wp2_with fail
  refine (isSetR_any Ax cx lx _ HRx.out HCx.out HN.out).mono ?_
  rintro e w1 ⟨rfl, hb⟩
  have HB := Aside0.mk hb
  clear hb
  cases hs : setB 300 lx
  · have HS := Aside0.mk hs
    clear hs
    go_wp2_with fail
    go_ret2
    refine ⟨_, by rw [knownE, if_neg (by rw [HS.out]; decide)]; rfl, ?_, HB.out⟩
    rw [rangesL, if_neg (by rw [HS.out]; decide)]
    exact Kd.R_nil _ _ _ _ _
  · have HS := Aside0.mk hs
    clear hs
    have HM := Aside0.mk (setB_length HS.out)
    go_wp2_with fail
    go_loopw [4, 5] (fun v4 v5 wr => ∃ k : Nat, v5 = .int .i64 (k : Int) ∧ k ≤ lx.length ∧ Aside0 (Own2 wr w.heap.size v4 (rangesF (lx.take k))) ∧ Aside0 (∀ (h : 0 < k) (h2 : k - 1 < lx.length), ∃ rs p, rangesF (lx.take k) = rs ++ [p] ∧ p.2 = lx[k - 1]) ∧ Aside0 (Below w.heap.size w wr)) (fun v4 v5 wr => ((lx.length : Int) - intOf v5).toNat)
    case atStart => exact ⟨0, rfl, by omega, ⟨Kd.R_nil _ _ _ _ _⟩, ⟨fun h => absurd h (by omega)⟩, HB⟩
    case round =>
      obtain ⟨k, rfl, hk, HO, HP, HBr⟩ := hrel
      by_cases hlt : k < lx.length
      · obtain ⟨ad, rfl, hcell⟩ := Kd.at_int HRx.out (k : Int) (by omega) (by omega)
        rw [rd_at lx k hlt] at hcell
        have HCW := Aside0.mk (And.intro (World.block_lt_of_cell? w _ hcell) hcell)
        simp only [Int.toNat_natCast] at HCW
        clear hcell
        have HXk : Aside0 (-10000 ≤ lx[k] ∧ lx[k] ≤ 10000) := ⟨by have := set_mem HS.out lx[k] (List.getElem_mem hlt); omega⟩
        have HTK : Aside0 (rangesF (lx.take (k + 1)) = addR (rangesF (lx.take k)) lx[k]) := ⟨by unfold rangesF; rw [List.take_succ_eq_append_getElem hlt, List.foldl_append]; rfl⟩
        have HLL : Aside0 ((rangesF (lx.take k)).length ≤ k) := ⟨by have := foldl_addR_length (lx.take k) []; rw [List.length_take] at this; simp at this; unfold rangesF; omega⟩
        rcases Nat.eq_zero_or_pos k with hk0 | hkp
        · subst hk0
          have hz : rangesF (lx.take 0) = [] := rfl
          rw [hz] at HO HTK
          obtain ⟨x, hxe⟩ : ∃ x, lx[0] = x := ⟨_, rfl⟩
          rw [hxe] at HCW HXk HTK
          have HXE := Aside0.mk hxe
          rw [show ad.add 0 = ad from add0 ad] at HCW
          have hcell : wr.cell? ad = some (.int .i64 x) := (HBr.out.cell HCW.out.1).trans HCW.out.2
          clear hxe hz
          obtain ⟨A2, c2, h2⟩ := Kd.R_slice HO.out
          simp only [List.length_nil] at h2
          subst h2
          go_wp2_with fail
          refine wp_region_segs (by kernel_rfl) [(false, [0, 1, 2, 3, 4, 5, 7, 8, 9, 10, 6, 11, 12, 13, 14])] (by decide) (by kernel_rfl) ?_
          simp only [wpSegs, pickOps, List.getElem?_toArray, List.getElem?_cons_succ, List.getElem?_cons_zero, Bool.false_eq_true, false_implies, true_and, forall_const]
          go_wp2_with fail
          refine ⟨rfl, by kernel_rfl, ?_⟩
          go_wp2_with fail
          refine wp_region_segs (by kernel_rfl) [(false, [0, 1, 2, 3, 5, 6, 7, 4, 8, 9, 10, 11, 12])] (by decide) (by kernel_rfl) ?_
          simp only [wpSegs, pickOps, List.getElem?_toArray, List.getElem?_cons_succ, List.getElem?_cons_zero, Bool.false_eq_true, false_implies, true_and, forall_const]
          go_wp2_with (at_builtin; refine app2 (w0 := w) (W := wr.drew.drew) w.heap.size (by rfl) _ _ (by rfl) (.slice A2 0 c2) [] x x (by rfl) (by rfl) HO.out (below_drew1 (below_drew1 HBr.out)) (below_drew1 (below_drew1 HBr.out)).size (by simp) ?_; intro v1 w1 ho hb; have HB1 := Aside0.mk hb; obtain ⟨g, cap, rfl, hg, hp0, hp1, hf1, hset⟩ := own2_last (rs := []) ho; have HST := Aside0.mk hset; have HG := Aside0.mk hg; have hcell := (hb.cell HCW.out.1).trans HCW.out.2; have hp1 : w1.cell? ⟨g, 1, none⟩ = some (.int .i64 x) := hp1; have hf1 : w1.frozen? ⟨g, 1, none⟩ = false := hf1; clear ho hb hset hg hp0)
          refine ⟨rfl, by kernel_rfl, ?_⟩
          go_wp2_with fail
          refine wp_region_segs (by kernel_rfl) [(false, [0, 1, 2, 3, 4, 5, 6, 8, 7, 9, 10])] (by decide) (by kernel_rfl) ?_
          simp only [wpSegs, pickOps, List.getElem?_toArray, List.getElem?_cons_succ, List.getElem?_cons_zero, Bool.false_eq_true, false_implies, true_and, forall_const]
          go_wp2_with fail
          refine ⟨rfl, by kernel_rfl, ?_⟩
          go_wp2_with fail
          go_roundw
          case rel => exact ⟨1, by go_num, by omega, ⟨by rw [HTK.out, addR_nil]; exact HST.out x⟩, ⟨fun _ _ => ⟨[], (x, x), by rw [HTK.out, addR_nil]; rfl, HXE.out.symm⟩⟩, ⟨below_set (below_drew1 HB1.out) HG.out⟩⟩
          case measure =>
            show ((lx.length : Int) - 1).toNat < ((lx.length : Int) - 0).toNat
            omega
        · obtain ⟨j, hj⟩ : ∃ j, k - 1 = j := ⟨_, rfl⟩
          have hjk : j + 1 = k := by omega
          have hjl : j < lx.length := by omega
          have hkz : ((k : Int) == 0) = false := by simp; omega
          have hw : wrap64 ((k : Int) - 1) = (j : Int) := by rw [wrap_id (by have := HN.out; omega) (by have := HN.out; omega)]; omega
          obtain ⟨rs, p, hr, hp⟩ := HP.out hkp (by omega)
          rw [hr] at HO HTK HLL
          have HR := Aside0.mk hr
          obtain ⟨ad2, hae, hcell2⟩ := Kd.at_int HRx.out (j : Int) (by omega) (by omega)
          obtain rfl : ad = ad2 := Option.some.inj hae
          rw [rd_at lx j hjl] at hcell2
          simp only [hj] at hp
          rw [← hp] at hcell2
          have hcellj : wr.cell? (ad.add j) = some (.int .i64 p.2) := by
            have := (HBr.out.cell (World.block_lt_of_cell? w _ hcell2)).trans hcell2
            simpa using this
          have hpr1 : -10000 ≤ p.2 ∧ p.2 ≤ 10000 := by rw [hp]; have := set_mem HS.out lx[j] (List.getElem_mem hjl); omega
          obtain ⟨hpr1, hpr2⟩ := hpr1
          obtain ⟨x, hxe⟩ : ∃ x, lx[k] = x := ⟨_, rfl⟩
          rw [hxe] at HCW HXk HTK
          have HXE := Aside0.mk hxe
          have hcell : wr.cell? (ad.add k) = some (.int .i64 x) := (HBr.out.cell HCW.out.1).trans HCW.out.2
          have HJ := Aside0.mk (And.intro hj hjk)
          have hm : rs.length + 1 ≤ 3000 := by have h1 := HLL.out; have h2 := HN.out; rw [List.length_append, List.length_singleton] at h1; omega
          clear hxe hr hcell2 hae hp hj hjk
          obtain ⟨g, cap, rfl, hg, hp0, hp1, hf1, hset⟩ := own2_last HO.out
          have HST := Aside0.mk hset
          have HG := Aside0.mk hg
          clear hset hg hp0
          by_cases hx : x = p.2 + 1
          · have hx1 : (x == p.2 + 1) = true := by simpa using hx
            have hx2 : (x != p.2 + 1) = false := by simpa using hx
            have HXQ := Aside0.mk hx
            clear hx
            go_wp2_with fail
            refine wp_region_segs (by kernel_rfl) [(false, [0, 1, 2, 3, 4, 5, 7, 8, 9, 10, 6, 11, 12, 13, 14])] (by decide) (by kernel_rfl) ?_
            simp only [wpSegs, pickOps, List.getElem?_toArray, List.getElem?_cons_succ, List.getElem?_cons_zero, Bool.false_eq_true, false_implies, true_and, forall_const]
            go_wp2_with fail
            refine ⟨rfl, by kernel_rfl, ?_⟩
            go_wp2_with fail
            refine wp_region_segs (by kernel_rfl) [(false, [0, 1, 2, 3, 4, 5, 6, 8, 7, 9, 10])] (by decide) (by kernel_rfl) ?_
            simp only [wpSegs, pickOps, List.getElem?_toArray, List.getElem?_cons_succ, List.getElem?_cons_zero, Bool.false_eq_true, false_implies, true_and, forall_const]
            go_wp2_with fail
            refine ⟨rfl, by kernel_rfl, ?_⟩
            go_wp2_with fail
            go_roundw
            case rel => exact ⟨k + 1, by have hn := HN.out; rw [wrap_id (by omega) (by omega), show (k : Int) + 1 = ((k + 1 : Nat) : Int) by omega], by omega, ⟨by rw [HTK.out, addR_snoc, if_pos HXQ.out.symm]; exact HST.out x⟩, ⟨fun _ _ => ⟨rs, (p.1, x), by rw [HTK.out, addR_snoc, if_pos HXQ.out.symm], HXE.out.symm⟩⟩, ⟨below_set (below_drew1 (below_drew1 HBr.out)) HG.out⟩⟩
            case measure => exact meas_lt hlt (by have := HN.out; omega)
          · have hx1 : (x == p.2 + 1) = false := by simpa using hx
            have hx2 : (x != p.2 + 1) = true := by simpa using hx
            have HXQ : Aside0 (¬ p.2 + 1 = x) := ⟨fun e => hx e.symm⟩
            clear hx hp1 hf1
            have HTK2 : Aside0 (rangesF (lx.take (k + 1)) = rs ++ [p] ++ [(x, x)]) := ⟨by rw [HTK.out, addR_snoc, if_neg HXQ.out]⟩
            have HOL : Aside0 ((rs ++ [p]).length = rs.length + 1) := ⟨by simp⟩
            generalize rs ++ [p] = rs2 at HO HTK2 HOL
            go_wp2_with fail
            refine wp_region_segs (by kernel_rfl) [(false, [0, 1, 2, 3, 4, 5, 7, 8, 9, 10, 6, 11, 12, 13, 14])] (by decide) (by kernel_rfl) ?_
            simp only [wpSegs, pickOps, List.getElem?_toArray, List.getElem?_cons_succ, List.getElem?_cons_zero, Bool.false_eq_true, false_implies, true_and, forall_const]
            go_wp2_with fail
            refine ⟨rfl, by kernel_rfl, ?_⟩
            go_wp2_with fail
            refine wp_region_segs (by kernel_rfl) [(false, [0, 1, 2, 3, 5, 6, 7, 4, 8, 9, 10, 11, 12])] (by decide) (by kernel_rfl) ?_
            simp only [wpSegs, pickOps, List.getElem?_toArray, List.getElem?_cons_succ, List.getElem?_cons_zero, Bool.false_eq_true, false_implies, true_and, forall_const]
            go_wp2_with (at_builtin; refine app2 (w0 := w) (W := wr.drew.drew) w.heap.size (by rfl) _ _ (by rfl) (.slice (some ⟨g, 0, none⟩) (rs.length + 1) cap) rs2 x x (by rfl) (by rfl) HO.out (below_drew1 (below_drew1 HBr.out)) (below_drew1 (below_drew1 HBr.out)).size (by have := HOL.out; omega) ?_; intro v1 w1 ho hb; have HB1 := Aside0.mk hb; obtain ⟨g2, cap2, rfl, hg, hp0, hp1, hf1, hset⟩ := own2_last (rs := rs2) ho; have HST2 := Aside0.mk hset; have HG2 := Aside0.mk hg; have hcell := (hb.cell HCW.out.1).trans HCW.out.2; rw [HOL.out] at hp1 hf1 HST2 ⊢; clear ho hb hset hg hp0)
            refine ⟨rfl, by kernel_rfl, ?_⟩
            go_wp2_with fail
            refine wp_region_segs (by kernel_rfl) [(false, [0, 1, 2, 3, 4, 5, 6, 8, 7, 9, 10])] (by decide) (by kernel_rfl) ?_
            simp only [wpSegs, pickOps, List.getElem?_toArray, List.getElem?_cons_succ, List.getElem?_cons_zero, Bool.false_eq_true, false_implies, true_and, forall_const]
            go_wp2_with fail
            refine ⟨rfl, by kernel_rfl, ?_⟩
            go_wp2_with fail
            go_roundw
            case rel => exact ⟨k + 1, by have hn := HN.out; rw [wrap_id (by omega) (by omega), show (k : Int) + 1 = ((k + 1 : Nat) : Int) by omega], by omega, ⟨by rw [HTK2.out]; exact HST2.out x⟩, ⟨fun _ _ => ⟨rs2, (x, x), HTK2.out, HXE.out.symm⟩⟩, ⟨below_set (below_drew1 HB1.out) HG2.out⟩⟩
            case measure => exact meas_lt hlt (by have := HN.out; omega)
      · obtain rfl : k = lx.length := by omega
        go_wp2_with fail
        go_ret2
        refine ⟨_, by rw [knownE, if_pos HS.out]; rfl, ?_, HBr.out⟩
        rw [rangesL, if_pos HS.out]
        have := HO.out
        rw [List.take_length] at this
        exact this
end Go.Proofs.Ytpbdlkbiiglkdaa

/- The reference's Pack, by contract. -/
set_option linter.unusedVariables false
set_option linter.unusedSimpArgs false
namespace Go.Proofs.Ytpbdlkbiiglkdaa
open Go.RowKit Go.Proofs.YtpbdlkbiiglkdaaW.PrintWords Go.Proofs.YtpbdlkbiiglkdaaW.PrintLast Go.Proofs.YtpbdlkbiiglkdaaW.PrintMore Go.Proofs.Cab
theorem info5 : (Try.prog.info? 5).map (fun i => (i.zero, i.size, i.bytes)) = some (some (.int .u8 0), 1, 1) := by kernel_rfl
section
variable {ops : Array Oper} {rest : List Oper} {o : Oper} {a : Act} {Q : Exit → Act → World → Prop}
/-- append(v, ys...) on a row of bytes of the call's own. -/
theorem appRowB {w0 W : World} (base : Nat) (hgd : o.guard = none) (s x : Operand) (ho : o.op = .call { callee := .builtin .append, args := #[s, x], argTypes := #[53, 53] })
    (v : Value) (xs ys : List Int) (A : Option Addr) (m c : Nat) (hs : a.eval s = v) (hx : a.eval x = .slice A m c) (HO : OwnB W base v xs) (HR : Kd.C (Kd.int .u8) W A m ys) (HB : Below base w0 W) (hbase : base ≤ W.heap.size) (hl : xs.length + m < 17592186044415)
    (h : ∀ v1 w1, OwnB w1 base v1 (xs ++ ys) → Below base w0 w1 → wpList Try.prog ops Q rest (a.put o.dst v1) w1) : wpList Try.prog ops Q (o :: rest) a W :=
  Kd.R_append_row (Value.int .u8) 0 (w0 := w0) base hgd s x 53 5 (.int .u8 0) 1 ho Try.underlying53 info5 rfl (by decide) v xs ys A m c (fun _ => True) hs hx (fun _ _ => trivial) HO HR HB hbase (by omega)
    fun v1 w1 ho hb _ _ => h v1 w1 ho hb
end
theorem numberR_any (n : Int) (w : World) : Calls Try.prog 69 #[.int .i64 n] w fun e w' => ∃ v : Value, e = .returned v ∧ OwnB w' w.heap.size v (numB n) ∧ Below w.heap.size w w' := by
  refine PAll.cabinetryref12_number.calls n (numB n) w ?_
  unfold PAll.cabinetryref12_number.f numB
  split <;> rfl
set_option maxHeartbeats 4000000 in
set_option maxRecDepth 100000 in
theorem PackR_any (Ax : Option Addr) (cx : Nat) (lx : List Int) (w : World) (hrx : Kd.C (Kd.int .i64) w Ax lx.length lx) (hcx : lx.length ≤ cx) (hn : lx.length ≤ 3000) : Calls Try.prog 46 #[.slice Ax lx.length cx] w fun e w' => ∃ v : Value, e = .returned (.tuple #[v, .int .i64 (knownE lx)]) ∧ OwnB w' w.heap.size v (packL lx) ∧ Below w.heap.size w w' := by
  have HRx := Aside0.mk hrx
  have HCx := Aside0.mk hcx
  clear hrx hcx
  have HN := Aside0.mk hn
  clear hn
  have hu38 := Try.underlying38
  go_enter Try.func46, Try.ntmps46
  go_wp2_with fail
  refine (RangesR_any Ax cx lx _ HRx.out HCx.out HN.out).mono ?_
  rintro e w1 ⟨v, rfl, ho, hb⟩
  have HB := Aside0.mk hb
  have HO := Aside0.mk ho
  clear hb ho
  obtain ⟨A1, c1, rfl⟩ := Kd.R_slice HO.out
  cases hs : setB 300 lx
  · have HS := Aside0.mk hs
    clear hs
    have hE : knownE lx = 1 := by rw [knownE, if_neg (by rw [HS.out]; decide)]
    have HE := Aside0.mk hE
    rw [hE]
    clear hE
    go_wp2_with fail
    go_ret2
    refine ⟨_, by rw [HE.out]; rfl, ?_, HB.out⟩
    rw [packL, if_neg (by rw [HS.out]; decide)]
    exact Kd.R_nil _ _ _ _ _
  · have HS := Aside0.mk hs
    clear hs
    have hE : knownE lx = 0 := by rw [knownE, if_pos HS.out]
    rw [hE]
    clear hE
    have hrl : rangesL lx = rangesF lx := by rw [rangesL, if_pos HS.out]
    rw [hrl] at HO ⊢
    clear hrl
    have HRL : Aside0 ((rangesF lx).length ≤ 3000) := ⟨by have := foldl_addR_length lx []; have := HN.out; simp at *; unfold rangesF; omega⟩
    have HRM : Aside0 (∀ p ∈ rangesF lx, (-10000 ≤ p.1 ∧ p.1 ≤ 10000) ∧ -10000 ≤ p.2 ∧ p.2 ≤ 10000) := ⟨foldl_addR_mem 10000 lx [] (fun x hx => by have := set_mem HS.out x hx; omega) (by simp)⟩
    have HPK : Aside0 (packG (rangesF lx) 0 = packF lx) := ⟨rfl⟩
    generalize rangesF lx = rs at *
    go_wp2_with fail
    go_loopw [6, 7, 8] (fun v6 v7 v8 wr => ∃ (k : Nat) (last : Int) (out : List Int), v8 = .int .i64 (k : Int) ∧ v7 = .int .i64 last ∧ -10000 ≤ last ∧ last ≤ 10000 ∧ k ≤ rs.length ∧ Aside0 (out ++ packG (rs.drop k) last = packF lx) ∧ Aside0 (out.length ≤ 4 * k) ∧ Aside0 (OwnB wr w1.heap.size v6 out) ∧ Aside0 (Below w1.heap.size w1 wr)) (fun v6 v7 v8 wr => ((rs.length : Int) - intOf v8).toNat)
    case atStart => exact ⟨0, 0, [], rfl, rfl, by omega, by omega, by omega, ⟨HPK.out⟩, ⟨by simp⟩, ⟨Kd.R_nil _ _ _ _ _⟩, ⟨Below.refl _ _⟩⟩
    case round =>
      obtain ⟨k, last, out, rfl, rfl, hl1, hl2, hk, HE, HL, HO3, HBr⟩ := hrel
      by_cases hlt : k < rs.length
      · obtain ⟨g, cap, hv, hg, e0, e1⟩ := own2_at HO.out k hlt
        injection hv with hv1 hv2 hv3
        subst hv1 hv3
        have HE0 := Aside0.mk (And.intro hg e0)
        have HE1 := Aside0.mk e1
        have e0 := (HBr.out.cell hg).trans e0
        have e1 := (HBr.out.cell hg).trans e1
        have hpm := HRM.out rs[k] (List.getElem_mem hlt)
        have HD : Aside0 (rs.drop k = rs[k] :: rs.drop (k + 1)) := ⟨List.drop_eq_getElem_cons hlt⟩
        obtain ⟨p, hp⟩ : ∃ p, rs[k] = p := ⟨_, rfl⟩
        rw [hp] at e0 e1 hpm HD HE0 HE1
        clear hp hg
        obtain ⟨⟨m1, m2⟩, m3, m4⟩ := hpm
        go_wp2_with fail
        refine (numberR_any _ _).mono ?_
        rintro e w4 ⟨v4, rfl, ho, hb⟩
        have HN4 := Aside0.mk (numB_length (p.1 - last - 1))
        obtain ⟨A4, c4, rfl, hc4, hr4⟩ := ho.slice
        have HR4 := Aside0.mk hr4
        have HB4 := Aside0.mk (below_step HBr.out hb)
        have HO4 : Aside0 (OwnB w4 w1.heap.size u6 out) := ⟨OwnB.below HO3.out hb⟩
        have e0 := (HB4.out.cell HE0.out.1).trans HE0.out.2
        have e1 := (HB4.out.cell HE0.out.1).trans HE1.out
        clear ho hc4 hr4 hb
        generalize hnb : numB (p.1 - last - 1) = nb at *
        have HNB := Aside0.mk hnb
        clear hnb
        go_wp2_with (at_builtin; refine appRowB (w0 := w1) (W := w4) w1.heap.size (by rfl) _ _ (by rfl) u6 out nb A4 nb.length c4 (by rfl) (by rfl) HO4.out HR4.out HB4.out HB4.out.size (by have := HL.out; have := HRL.out; have := HN4.out; omega) ?_; intro v5 w5 ho hb; have HO5 := Aside0.mk ho; have HB5 := Aside0.mk hb; have e0 := (hb.cell HE0.out.1).trans HE0.out.2; have e1 := (hb.cell HE0.out.1).trans HE1.out; clear ho hb)
        refine wp_region_segs (by kernel_rfl) [(false, [0, 1, 2, 3, 4, 6, 7, 8, 9, 5, 10, 11, 12, 13, 14])] (by decide) (by kernel_rfl) ?_
        simp only [wpSegs, pickOps, List.getElem?_toArray, List.getElem?_cons_succ, List.getElem?_cons_zero, Bool.false_eq_true, false_implies, true_and, forall_const]
        go_wp2_with fail
        refine (numberR_any _ _).mono ?_
        rintro e w6 ⟨v6, rfl, ho, hb⟩
        have HN6 := Aside0.mk (numB_length (p.2 - p.1))
        obtain ⟨A6, c6, rfl, hc6, hr6⟩ := ho.slice
        have HR6 := Aside0.mk hr6
        have HB6 := Aside0.mk (below_step (below_drew1 HB5.out) hb)
        have HO6 : Aside0 (OwnB w6 w1.heap.size v5 (out ++ nb)) := ⟨OwnB.below (w := w5.drew) HO5.out hb⟩
        have e0 := (HB6.out.cell HE0.out.1).trans HE0.out.2
        have e1 := (HB6.out.cell HE0.out.1).trans HE1.out
        clear ho hc6 hr6 hb
        generalize hnc : numB (p.2 - p.1) = nc at *
        have HNC := Aside0.mk hnc
        clear hnc
        go_wp2_with (at_builtin; refine appRowB (w0 := w1) (W := w6) w1.heap.size (by rfl) _ _ (by rfl) v5 (out ++ nb) nc A6 nc.length c6 (by rfl) (by rfl) HO6.out HR6.out HB6.out HB6.out.size (by have := HL.out; have := HRL.out; have := HN4.out; have := HN6.out; rw [List.length_append]; omega) ?_; intro v7 w7 ho hb; have HO7 := Aside0.mk ho; have HB7 := Aside0.mk hb; have e0 := (hb.cell HE0.out.1).trans HE0.out.2; have e1 := (hb.cell HE0.out.1).trans HE1.out; clear ho hb)
        refine ⟨rfl, by kernel_rfl, ?_⟩
        go_wp2_with fail
        have hrl := HRL.out
        go_roundw
        case rel => exact ⟨k + 1, p.2, out ++ nb ++ nc, by rw [wrap_id (by omega) (by omega), show (k : Int) + 1 = ((k + 1 : Nat) : Int) by omega], rfl, by omega, by omega, by omega, ⟨by rw [← HE.out, HD.out, ← HNB.out, ← HNC.out]; simp [packG]⟩, ⟨by
          have := HN4.out
          have := HN6.out
          have := HL.out
          simp only [List.length_append]
          omega⟩, ⟨HO7.out⟩, HB7⟩
        case measure => exact meas_lt hlt (by omega)
      · obtain rfl : k = rs.length := by omega
        go_wp2_with fail
        go_ret2
        refine ⟨_, by rw [knownE, if_pos HS.out]; rfl, ?_, below_step HB.out HBr.out⟩
        have h := HE.out
        rw [List.drop_length] at h
        simp only [packG, List.append_nil] at h
        rw [packL, if_pos HS.out, ← h]
        exact OwnB.lower HO3.out HB.out.size
end Go.Proofs.Ytpbdlkbiiglkdaa

/- take, by contract. -/
set_option linter.unusedVariables false
set_option linter.unusedSimpArgs false
namespace Go.Proofs.Ytpbdlkbiiglkdaa
open Go.RowKit Go.Proofs.YtpbdlkbiiglkdaaW.PrintWords Go.Proofs.YtpbdlkbiiglkdaaW.PrintLast Go.Proofs.YtpbdlkbiiglkdaaW.PrintMore Go.Proofs.Cab
theorem cutB {ad : Addr} {c : Nat} {l : List Int} (m : Nat) (hm : m ≤ l.length) (hc : l.length ≤ c) :
    ∃ A' : Option Addr, (∀ W : World, (Instr.slice 53 (.slice (some ad) l.length c) (some (.int .i64 m)) none none).run Try.prog W = .ok (.slice A' (l.drop m).length (c - m)) W) ∧
      (∀ w : World, Kd.C (Kd.int .u8) w (some ad) l.length l → Kd.C (Kd.int .u8) w A' (l.drop m).length (l.drop m)) ∧ (l.drop m).length ≤ c - m := by
  obtain ⟨i0, hi, hz⟩ := Option.map_eq_some_iff.1 info5
  simp only [Prod.mk.injEq] at hz
  refine ⟨_, fun W => by simpa [List.length_drop] using cut_from (P := Try.prog) 53 5 .i64 Try.underlying53 hi 1 hz.2.1 (some ad) l.length c m (by omega) (by omega) W, ?_, by rw [List.length_drop]; omega⟩
  intro w h
  have := Kd.C_drop (k := Kd.int .u8) (m := m) (c := c) (xs := l) (w := w) (A := some ad) h hm hc
  simpa [Kd.int, Kd.scalar] using this
def takeP : List Int → Int × List Int × Bool
  | [] => (0, [], false)
  | x :: r => if x < 128 then (x, r, true) else match r with
    | [] => (0, [], false)
    | y :: r' => (x - 128 + 128 * y, r', true)
set_option maxHeartbeats 4000000 in
set_option maxRecDepth 100000 in
theorem take_any (A0 : Option Addr) (c0 : Nat) (l0 : List Int) (w : World) (hr0 : Kd.C (Kd.int .u8) w A0 l0.length l0) (hc0 : l0.length ≤ c0) (hb : ∀ x ∈ l0, 0 ≤ x ∧ x ≤ 255) :
    Calls Try.prog 65 #[.slice A0 l0.length c0] w fun e w' => ∃ (A' : Option Addr) (c' : Nat), e = .returned (.tuple #[.int .i64 (takeP l0).1, .slice A' (takeP l0).2.1.length c', .bool (takeP l0).2.2]) ∧ (takeP l0).2.1.length ≤ c' ∧ (∀ W : World, Kd.C (Kd.int .u8) W A0 l0.length l0 → Kd.C (Kd.int .u8) W A' (takeP l0).2.1.length (takeP l0).2.1) ∧ Below w.heap.size w w' := by
  have HR0 := Aside0.mk hr0
  have HC0 := Aside0.mk hc0
  clear hr0 hc0
  go_enter Try.func65, Try.ntmps65
  match l0, hb, HR0, HC0 with
  | [], hb, HR0, HC0 =>
    go_wp2_with fail
    go_ret3
    exact ⟨none, 0, rfl, Nat.le_refl _, fun W _ => Kd.C_nil _ _, Below.refl _ _⟩
  | x :: r, hb, HR0, HC0 =>
    obtain ⟨ad, rfl, hcell⟩ := Kd.at_int HR0.out 0 (by omega) (by simp)
    have hcell : w.cell? ad = some (.int .u8 x) := by simpa [Addr.add, rd_cons0] using hcell
    have hx := hb x List.mem_cons_self
    by_cases h128 : x < 128
    · have h1 := decide_eq_true h128
      have HT : Aside0 (takeP (x :: r) = (x, r, true)) := ⟨by simp [takeP, h128]⟩
      obtain ⟨A1, hcut, hC1, hle⟩ := cutB (ad := ad) 1 (by simp) HC0.out
      have HC1 := Aside0.mk hC1
      have HLE := Aside0.mk hle
      clear hC1 hle
      simp only [List.drop_succ_cons, List.drop_zero, List.length_cons] at hcut HC1 HLE
      have hcut1 : ∀ W : World, (Instr.slice 53 (.slice (some ad) (r.length + 1) c0) (some (.int .i64 1)) none none).run Try.prog W = .ok (.slice A1 r.length (c0 - 1)) W := hcut
      clear hcut
      go_wp2_with fail
      refine wp_region_segs (by kernel_rfl) [(false, [0, 1, 4, 5, 2, 3, 6, 7, 8])] (by decide) (by kernel_rfl) ?_
      simp only [wpSegs, pickOps, List.getElem?_toArray, List.getElem?_cons_succ, List.getElem?_cons_zero, Bool.false_eq_true, false_implies, true_and, forall_const]
      go_wp2_with fail
      refine ⟨rfl, by kernel_rfl, ?_⟩
      go_wp2_with fail
      go_ret3
      refine ⟨A1, c0 - 1, ?_, ?_, ?_, below_drew1 (Below.refl _ _)⟩
      · rw [HT.out]; rfl
      · rw [HT.out]; exact Nat.le_sub_one_of_lt HC0.out
      · rw [HT.out]; exact HC1.out
    · have h1 := decide_eq_false h128
      match r, hb, HR0, HC0 with
      | [], hb, HR0, HC0 =>
        have HT : Aside0 (takeP [x] = (0, [], false)) := ⟨by simp [takeP, h128]⟩
        go_wp2_with fail
        go_ret3
        refine ⟨none, 0, ?_, ?_, ?_, Below.refl _ _⟩
        · rw [HT.out]; rfl
        · rw [HT.out]; exact Nat.le_refl _
        · rw [HT.out]; exact fun W _ => Kd.C_nil (Kd.int .u8) W
      | y :: r', hb, HR0, HC0 =>
        obtain ⟨ad2, hae, hcell2⟩ := Kd.at_int HR0.out 1 (by omega) (by simp; omega)
        obtain rfl : ad = ad2 := Option.some.inj hae
        have hcell2 : w.cell? ⟨ad.block, ad.off + 1, none⟩ = some (.int .u8 y) := by simpa [rd, Addr.add] using hcell2
        have hy := hb y (by simp)
        have HT : Aside0 (takeP (x :: y :: r') = (x - 128 + 128 * y, r', true)) := ⟨by simp [takeP, h128]⟩
        obtain ⟨A1, hcut, hC1, hle⟩ := cutB (ad := ad) 2 (by simp) HC0.out
        have HC1 := Aside0.mk hC1
        have HLE := Aside0.mk hle
        clear hC1 hle
        simp only [List.drop_succ_cons, List.drop_zero, List.length_cons] at hcut HC1 HLE
        have hcut1 : ∀ W : World, (Instr.slice 53 (.slice (some ad) (r'.length + 1 + 1) c0) (some (.int .i64 2)) none none).run Try.prog W = .ok (.slice A1 r'.length (c0 - 2)) W := hcut
        clear hcut
        go_wp2_with fail
        refine wp_region_segs (by kernel_rfl) [(false, [0, 1, 5, 6, 11, 12, 2, 3, 4, 7, 8, 9, 10, 13, 14, 15])] (by decide) (by kernel_rfl) ?_
        simp only [wpSegs, pickOps, List.getElem?_toArray, List.getElem?_cons_succ, List.getElem?_cons_zero, Bool.false_eq_true, false_implies, true_and, forall_const]
        go_wp2_with fail
        refine ⟨rfl, by kernel_rfl, ?_⟩
        go_wp2_with fail
        go_ret3
        refine ⟨A1, c0 - 2, ?_, ?_, ?_, below_drew1 (Below.refl _ _)⟩
        · rw [HT.out]
          congr 3
        · rw [HT.out]; exact HLE.out
        · rw [HT.out]; exact HC1.out
end Go.Proofs.Ytpbdlkbiiglkdaa

/- Unpack, by contract. -/
set_option linter.unusedVariables false
set_option linter.unusedSimpArgs false
namespace Go.Proofs.Ytpbdlkbiiglkdaa
open Go.RowKit Go.Proofs.YtpbdlkbiiglkdaaW.PrintWords Go.Proofs.YtpbdlkbiiglkdaaW.PrintLast Go.Proofs.YtpbdlkbiiglkdaaW.PrintMore Go.Proofs.Cab
/-- What packed bytes hold, read stretch by stretch. -/
def decF : Nat → List Int → Int → List Int → Option (List Int)
  | 0, _, _, _ => none
  | n + 1, rest, last, out =>
    if rest = [] then some out
    else if (takeP rest).2.2 = false then none
    else if (takeP (takeP rest).2.1).2.2 = false then none
    else if last + (takeP rest).1 + 1 + (takeP (takeP rest).2.1).1 > 300 then none
    else decF n (takeP (takeP rest).2.1).2.1 (last + (takeP rest).1 + 1 + (takeP (takeP rest).2.1).1) (out ++ fromTo 0 ((takeP (takeP rest).2.1).1 + 1).toNat (last + (takeP rest).1 + 1))
def unpackO (b : List Int) : Option (List Int) := match decF (b.length + 1) b 0 [] with
  | some out => if packF out = b then some out else none
  | none => none
def unpackE (b : List Int) : Int := if (unpackO b).isSome then 0 else 11
def unpackL (b : List Int) : List Int := (unpackO b).getD []
theorem takeP_spec (l : List Int) (hb : ∀ x ∈ l, 0 ≤ x ∧ x ≤ 255) : (0 ≤ (takeP l).1 ∧ (takeP l).1 ≤ 33000) ∧ (∀ x ∈ (takeP l).2.1, 0 ≤ x ∧ x ≤ 255) ∧ ((takeP l).2.2 = true → (takeP l).2.1.length < l.length) ∧ (takeP l).2.1.length ≤ l.length := by
  match l, hb with
  | [], hb => simp [takeP]
  | [x], hb =>
    have := hb x (by simp)
    by_cases h : x < 128 <;> simp [takeP, h] <;> omega
  | x :: y :: r, hb =>
    have h1 := hb x (by simp)
    have h2 := hb y (by simp)
    by_cases h : x < 128
    · simp only [takeP, h, if_true]
      exact ⟨by omega, fun z hz => hb z (List.mem_cons_of_mem _ hz), fun _ => by simp, by simp⟩
    · simp only [takeP, h, if_false]
      exact ⟨by omega, fun z hz => hb z (List.mem_cons_of_mem _ (List.mem_cons_of_mem _ hz)), fun _ => by simp; omega, by simp; omega⟩
theorem fromTo_length (n : Int) : ∀ (d : Nat) (i : Int), (fromTo n d i).length = d
  | 0, i => rfl
  | d + 1, i => by rw [fromTo, List.length_cons, fromTo_length n d (i + 1)]
theorem fromTo_snoc (n : Int) : ∀ (d : Nat) (i : Int), fromTo n (d + 1) i = fromTo n d i ++ [i + d]
  | 0, i => by simp [fromTo]
  | d + 1, i => by
    rw [fromTo, fromTo_snoc n d (i + 1), fromTo]
    simp only [List.cons_append]
    rw [show i + 1 + (d : Int) = i + ((d + 1 : Nat) : Int) by omega]
theorem bytesEq_any (A0 : Option Addr) (c0 : Nat) (l0 : List Int) (A1 : Option Addr) (c1 : Nat) (l1 : List Int) (w : World) (hr0 : Kd.C (Kd.int .u8) w A0 l0.length l0) (hc0 : l0.length ≤ c0) (hr1 : Kd.C (Kd.int .u8) w A1 l1.length l1) (hc1 : l1.length ≤ c1) :
    Calls Try.prog 66 #[.slice A0 l0.length c0, .slice A1 l1.length c1] w fun e w' => e = .returned (.bool (decide (l0 = l1))) ∧ Drawn0 w w' := by
  have key : ∀ (d i : Nat), l0.length = l1.length → l0.length - i = d → i ≤ l0.length → PAll.slices_Equal_byte_byte.l0 (d + 1) l0 l1 (l0.length : Int) (i : Int) = some (decide (l0.drop i = l1.drop i)) := by
    have hl : l0.length ≤ 9223372036854775807 := hr0.2.1
    intro d
    induction d with
    | zero =>
      intro i he hd hi
      obtain rfl : i = l0.length := by omega
      rw [PAll.slices_Equal_byte_byte.l0, if_neg (by omega), List.drop_length, he, List.drop_length]
      rfl
    | succ d ih =>
      intro i he hd hi
      have hlt : i < l0.length := by omega
      have hltb : i < l1.length := by omega
      rw [PAll.slices_Equal_byte_byte.l0, if_pos (by omega), if_pos (by omega), if_pos (by omega), if_pos (by omega), rd_at l0 i hlt, rd_at l1 i hltb, drop_at l0 i hlt, drop_at l1 i hltb]
      by_cases h : l0[i] = l1[i]
      · rw [if_pos h, wrap_id (by omega) (by omega), show (i : Int) + 1 = ((i + 1 : Nat) : Int) by omega, ih (i + 1) he (by omega) (by omega), h]
        exact congrArg some (decide_eq_decide.2 ⟨fun e => by rw [e], fun e => (List.cons.inj e).2⟩)
      · rw [if_neg h]
        exact congrArg some (decide_eq_false fun e => h (List.cons.inj e).1).symm
  refine PAll.slices_Equal_byte_byte.calls (l0.length + 1) A0 c0 l0 A1 c1 l1 _ w hr0 hc0 hr1 hc1 ?_
  rw [PAll.slices_Equal_byte_byte.f]
  by_cases h : l0.length = l1.length
  · rw [if_pos (by omega)]
    have := key l0.length 0 h (by omega) (by omega)
    simpa using this
  · rw [if_neg (by omega)]
    exact congrArg some (decide_eq_false fun e => h (by rw [e])).symm
end Go.Proofs.Ytpbdlkbiiglkdaa

/- Unpack, by contract. -/
set_option linter.unusedVariables false
set_option linter.unusedSimpArgs false
namespace Go.Proofs.Ytpbdlkbiiglkdaa
open Go.RowKit Go.Proofs.YtpbdlkbiiglkdaaW.PrintWords Go.Proofs.YtpbdlkbiiglkdaaW.PrintLast Go.Proofs.YtpbdlkbiiglkdaaW.PrintMore Go.Proofs.Cab
theorem decF_mem : ∀ (f : Nat) (rest : List Int) (last : Int) (out r : List Int), decF f rest last out = some r → True := fun _ _ _ _ _ _ => trivial
def lenOf : Value → Nat
  | .slice _ n _ => n
  | _ => 0
set_option maxHeartbeats 4000000 in
set_option maxRecDepth 100000 in
theorem Unpack_any (A0 : Option Addr) (c0 : Nat) (b : List Int) (w : World) (hr0 : Kd.C (Kd.int .u8) w A0 b.length b) (hc0 : b.length ≤ c0) (hb : ∀ x ∈ b, 0 ≤ x ∧ x ≤ 255) (hn : b.length ≤ 3000) :
    Calls Try.prog 41 #[.slice A0 b.length c0] w fun e w' => ∃ v : Value, e = .returned (.tuple #[v, .int .i64 (unpackE b)]) ∧ Own w' w.heap.size v (unpackL b) ∧ Below w.heap.size w w' := by
  have HR0 := Aside0.mk hr0
  have HC0 := Aside0.mk hc0
  have HBY := Aside0.mk hb
  have HN := Aside0.mk hn
  clear hr0 hc0 hb hn
  go_enter Try.func41, Try.ntmps41
  go_wp2_with fail
  go_loopw [4, 5, 6] (fun v4 v5 v6 wr => ∃ (rest out : List Int) (last : Int) (A : Option Addr) (c f : Nat), v6 = .slice A rest.length c ∧ v5 = .int .i64 last ∧ 0 ≤ last ∧ last ≤ 300 ∧ rest.length ≤ 3000 ∧ Aside0 (rest.length + 1 ≤ f) ∧ Aside0 (rest.length ≤ c) ∧ Aside0 (Kd.C (Kd.int .u8) w A rest.length rest) ∧ Aside0 (∀ x ∈ rest, 0 ≤ x ∧ x ≤ 255) ∧ Aside0 (decF f rest last out = decF (b.length + 1) b 0 []) ∧ Aside0 ((out.length : Int) ≤ last ∧ ∀ x ∈ out, 1 ≤ x ∧ x ≤ 300) ∧ Aside0 (Own wr w.heap.size v4 out) ∧ Aside0 (Below w.heap.size w wr)) (fun v4 v5 v6 wr => lenOf v6)
  case atStart => exact ⟨b, [], 0, A0, c0, b.length + 1, rfl, rfl, by omega, by omega, HN.out, ⟨Nat.le_refl _⟩, HC0, HR0, HBY, ⟨rfl⟩, ⟨by simp⟩, ⟨Own.nil _ _⟩, ⟨Below.refl _ _⟩⟩
  case round =>
    obtain ⟨rest, out, last, A, c, f, rfl, rfl, hl1, hl2, hl3, HF, HC, HR, HBB, HD, HL, HO, HB⟩ := hrel
    rcases Nat.eq_zero_or_pos rest.length with hz | hp
    · have hre : rest = [] := List.eq_nil_of_length_eq_zero hz
      have HDS : Aside0 (decF (b.length + 1) b 0 [] = some out) := ⟨by
        rw [← HD.out, hre]
        obtain ⟨g, rfl⟩ : ∃ g, f = g + 1 := ⟨f - 1, by have := HF.out; omega⟩
        rw [decF, if_pos rfl]⟩
      have HZ := Aside0.mk hz
      clear hre
      obtain ⟨A4, c4, rfl, hc4, hr4⟩ := HO.out.slice
      have HR4 := Aside0.mk hr4
      have HC4 := Aside0.mk hc4
      clear hr4 hc4
      go_wp2_with fail
      refine (pack_any A4 c4 out _ HR4.out HC4.out (by have := HL.out.1; omega) (fun x hx => by have := HL.out.2 x hx; omega)).mono ?_
      rintro e w1 ⟨v, rfl, ho, hb⟩
      obtain ⟨A5, c5, rfl, hc5, hr5⟩ := ho.slice
      have HR5 := Aside0.mk hr5
      have HC5 := Aside0.mk hc5
      have HB1 := Aside0.mk (below_step HB.out hb)
      have HO1 := Aside0.mk (Own.below HO.out hb)
      clear ho hr5 hc5 hb
      go_wp2_with fail
      refine (bytesEq_any A5 c5 (packF out) A0 c0 b _ HR5.out HC5.out (Kd.C_below HR0.out HB1.out) HC0.out).mono ?_
      rintro e w2 ⟨rfl, nd, rfl⟩
      by_cases hq : packF out = b
      · have HQ := Aside0.mk hq
        clear hq
        rw [decide_eq_true HQ.out]
        have HU : Aside0 (unpackO b = some out) := ⟨by unfold unpackO; rw [HDS.out]; exact if_pos HQ.out⟩
        go_wp2_with fail
        go_ret2
        exact ⟨_, by rw [unpackE, HU.out]; rfl, by rw [unpackL, HU.out]; exact HO1.out, pw_below_drewN HB1.out _⟩
      · have HQ := Aside0.mk hq
        clear hq
        rw [decide_eq_false HQ.out]
        have HU : Aside0 (unpackO b = none) := ⟨by unfold unpackO; rw [HDS.out]; exact if_neg HQ.out⟩
        go_wp2_with fail
        go_ret2
        exact ⟨_, by rw [unpackE, HU.out]; rfl, by rw [unpackL, HU.out]; exact Own.nil _ _, pw_below_drewN HB1.out _⟩
    · have hpos : ((rest.length : Int) > 0) := by omega
      have hposb := decide_eq_true hpos
      go_wp2_with fail
      refine (take_any A c rest _ (Kd.C_below HR.out HB.out) HC.out HBB.out).mono ?_
      have hsp := takeP_spec rest HBB.out
      obtain ⟨⟨gap, more, ok⟩, htp⟩ : ∃ p, takeP rest = p := ⟨_, rfl⟩
      rw [htp] at hsp ⊢
      simp only at hsp ⊢
      obtain ⟨⟨hg1, hg2⟩, hmb, hmok, hml⟩ := hsp
      have HMB := Aside0.mk hmb
      have HMO := Aside0.mk hmok
      have HML := Aside0.mk hml
      have HTP := Aside0.mk htp
      clear hmb hmok hml htp
      rintro e w1 ⟨A1, c1, rfl, hc1, hr1, hb1⟩
      have HR1 := Aside0.mk (hr1 w HR.out)
      have HC1 := Aside0.mk hc1
      have HB1 := Aside0.mk (below_step HB.out hb1)
      have HO1 := Aside0.mk (Own.below HO.out hb1)
      clear hr1 hc1 hb1
      have HNE : Aside0 (rest ≠ []) := ⟨fun e => by rw [e] at hp; simp at hp⟩
      cases ok
      · have HU : Aside0 (unpackO b = none) := ⟨by
          unfold unpackO
          rw [← HD.out]
          obtain ⟨g, rfl⟩ : ∃ g, f = g + 1 := ⟨f - 1, by have := HF.out; omega⟩
          rw [decF, if_neg HNE.out, HTP.out, if_pos rfl]⟩
        go_wp2_with fail
        go_ret2
        exact ⟨_, by rw [unpackE, HU.out]; rfl, by rw [unpackL, HU.out]; exact Own.nil _ _, HB1.out⟩
      · go_wp2_with fail
        refine (take_any A1 c1 more _ (Kd.C_below HR1.out HB1.out) HC1.out HMB.out).mono ?_
        have hsp := takeP_spec more HMB.out
        obtain ⟨⟨m, rest2, ok2⟩, htp⟩ : ∃ p, takeP more = p := ⟨_, rfl⟩
        rw [htp] at hsp ⊢
        simp only at hsp ⊢
        obtain ⟨⟨hm1, hm2⟩, hmb, hmok, hml⟩ := hsp
        have HMB2 := Aside0.mk hmb
        have HML2 := Aside0.mk hml
        have HTP2 := Aside0.mk htp
        clear hmb hmok hml htp
        rintro e w2 ⟨A2, c2, rfl, hc2, hr2, hb2⟩
        have HR2 := Aside0.mk (hr2 w HR1.out)
        have HC2 := Aside0.mk hc2
        have HB2 := Aside0.mk (below_step HB1.out hb2)
        have HO2 := Aside0.mk (Own.below HO1.out hb2)
        clear hr2 hc2 hb2
        cases ok2
        · have HU : Aside0 (unpackO b = none) := ⟨by
            unfold unpackO
            rw [← HD.out]
            obtain ⟨g, rfl⟩ : ∃ g, f = g + 1 := ⟨f - 1, by have := HF.out; omega⟩
            rw [decF, if_neg HNE.out, HTP.out]
            simp only
            rw [if_neg (by decide), HTP2.out, if_pos rfl]⟩
          go_wp2_with fail
          go_ret2
          exact ⟨_, by rw [unpackE, HU.out]; rfl, by rw [unpackL, HU.out]; exact Own.nil _ _, HB2.out⟩
        · by_cases hbig : last + gap + 1 + m > 300
          · have HU : Aside0 (unpackO b = none) := ⟨by
              unfold unpackO
              rw [← HD.out]
              obtain ⟨g, rfl⟩ : ∃ g, f = g + 1 := ⟨f - 1, by have := HF.out; omega⟩
              rw [decF, if_neg HNE.out, HTP.out]
              simp only
              rw [if_neg (by decide), HTP2.out]
              simp only
              rw [if_neg (by decide), if_pos hbig]⟩
            have hbigb := decide_eq_true hbig
            go_wp2_with fail
            go_ret2
            exact ⟨_, by rw [unpackE, HU.out]; rfl, by rw [unpackL, HU.out]; exact Own.nil _ _, HB2.out⟩
          · have hbigb := decide_eq_false hbig
            go_wp2_with fail
            go_loopw [4, 43] (fun v4 v43 wq => ∃ j : Nat, v43 = .int .i64 (j : Int) ∧ (j : Int) ≤ m + 1 ∧ Aside0 (Own wq w.heap.size v4 (out ++ fromTo 0 j (last + gap + 1))) ∧ Aside0 (Below w.heap.size w wq)) (fun v4 v43 wq => (m + 1 - intOf v43).toNat)
            case atStart => exact ⟨0, rfl, by omega, ⟨by simpa [fromTo] using HO2.out⟩, HB2⟩
            case round =>
              obtain ⟨j, rfl, hj, HO3, HB3⟩ := hrel
              have HJL : Aside0 ((out ++ fromTo 0 j (last + gap + 1)).length ≤ 1000000) := ⟨by have := HL.out.1; rw [List.length_append, fromTo_length]; omega⟩
              by_cases hlt : (j : Int) < m + 1
              · have hltb := decide_eq_true hlt
                go_wp2_with (at_builtin; refine app1 (w0 := w) (W := wr) w.heap.size (by rfl) _ _ (by rfl) u4 (out ++ fromTo 0 j (last + gap + 1)) (last + gap + 1 + (j : Int)) (by rfl) (by rfl) HO3.out HB3.out HB3.out.size (by have := HJL.out; omega) ?_; intro v4 w4 ho hb; have HO4 := Aside0.mk ho; have HB4 := Aside0.mk hb; clear ho hb)
                go_roundw
                case rel => exact ⟨j + 1, by go_num, by omega, ⟨by rw [fromTo_snoc, ← List.append_assoc]; exact HO4.out⟩, HB4⟩
                case measure => simp [intOf]; omega
              · have hltb := decide_eq_false hlt
                have hjm : (j : Int) = m + 1 := by omega
                have HJM := Aside0.mk hjm
                clear hjm
                go_wp2_with fail
                go_roundw
                case rel => exact ⟨rest2, out ++ fromTo 0 j (last + gap + 1), last + gap + 1 + m, A2, c2, f - 1, rfl, by go_num, by omega, by omega, by have := HML.out; have := HML2.out; omega, ⟨by have := HF.out; have := HMO.out trivial; have := HML2.out; omega⟩, HC2, HR2, HMB2, ⟨by
                  rw [← HD.out]
                  obtain ⟨g, rfl⟩ : ∃ g, f = g + 1 := ⟨f - 1, by have := HF.out; omega⟩
                  rw [decF, if_neg HNE.out, HTP.out]
                  simp only
                  rw [if_neg (by decide), HTP2.out]
                  simp only
                  rw [if_neg (by decide), if_neg (by omega), Nat.add_sub_cancel, show (m + 1).toNat = j by have := HJM.out; omega]⟩, ⟨by
                  have h1 := HL.out
                  have h2 := HJM.out
                  refine ⟨by rw [List.length_append, fromTo_length]; omega, fun x hx => ?_⟩
                  rcases List.mem_append.1 hx with h | h
                  · exact h1.2 x h
                  · rw [fromTo_mem] at h; omega⟩, HO3, HB3⟩
                case measure =>
                  show rest2.length < rest.length
                  have := HMO.out trivial
                  have := HML2.out
                  omega
end Go.Proofs.Ytpbdlkbiiglkdaa

/- The reference's Unpack, by contract. -/
set_option linter.unusedVariables false
set_option linter.unusedSimpArgs false
namespace Go.Proofs.Ytpbdlkbiiglkdaa
open Go.RowKit Go.Proofs.YtpbdlkbiiglkdaaW.PrintWords Go.Proofs.YtpbdlkbiiglkdaaW.PrintLast Go.Proofs.YtpbdlkbiiglkdaaW.PrintMore Go.Proofs.Cab
theorem cutO {A : Option Addr} {c : Nat} {l : List Int} (m : Nat) (hm : m ≤ l.length) (hc : l.length ≤ c) :
    ∃ A' : Option Addr, (∀ W : World, (Instr.slice 53 (.slice A l.length c) (some (.int .i64 m)) none none).run Try.prog W = .ok (.slice A' (l.drop m).length (c - m)) W) ∧
      (∀ w : World, Kd.C (Kd.int .u8) w A l.length l → Kd.C (Kd.int .u8) w A' (l.drop m).length (l.drop m)) ∧ (l.drop m).length ≤ c - m := by
  obtain ⟨i0, hi, hz⟩ := Option.map_eq_some_iff.1 info5
  simp only [Prod.mk.injEq] at hz
  refine ⟨_, fun W => by simpa [List.length_drop] using cut_from (P := Try.prog) 53 5 .i64 Try.underlying53 hi 1 hz.2.1 A l.length c m (by omega) (by omega) W, ?_, by rw [List.length_drop]; omega⟩
  intro w h
  have := Kd.C_drop (k := Kd.int .u8) (m := m) (c := c) (xs := l) (w := w) (A := A) h hm hc
  simpa [Kd.int, Kd.scalar] using this
theorem takeR_f (l : List Int) (hb : ∀ x ∈ l, 0 ≤ x ∧ x ≤ 255) : ∃ n : Nat, PAll.cabinetryref12_take.f l = some ((takeP l).1, (n : Int)) ∧ n ≤ l.length ∧ ((takeP l).2.2 = false → n = 0) ∧ ((takeP l).2.2 = true → 0 < n ∧ (takeP l).2.1 = l.drop n) := by
  match l, hb with
  | [], hb => exact ⟨0, by rw [PAll.cabinetryref12_take.f, if_pos (by simp)]; rfl, by simp, fun _ => rfl, fun h => by simp [takeP] at h⟩
  | [x], hb =>
    have := hb x (by simp)
    have hr : rd [x] 0 = x := rfl
    by_cases h : x < 128
    · refine ⟨1, ?_, by simp, fun h2 => by simp [takeP, h] at h2, fun _ => ⟨by omega, by simp [takeP, h]⟩⟩
      rw [PAll.cabinetryref12_take.f, if_neg (by simp), if_pos (by simp), hr, if_pos h, wrap_id (by omega) (by omega)]
      simp [takeP, h]
    · refine ⟨0, ?_, by simp, fun _ => rfl, fun h2 => by simp [takeP, h] at h2⟩
      rw [PAll.cabinetryref12_take.f, if_neg (by simp), if_pos (by simp), hr, if_neg h, if_pos (by simp)]
      simp [takeP, h]
  | x :: y :: r, hb =>
    have h1 := hb x (by simp)
    have h2 := hb y (by simp)
    have hr : rd (x :: y :: r) 0 = x := rfl
    have hr1 : rd (x :: y :: r) 1 = y := rfl
    by_cases h : x < 128
    · refine ⟨1, ?_, by simp, fun h2 => by simp [takeP, h] at h2, fun _ => ⟨by omega, by simp [takeP, h]⟩⟩
      rw [PAll.cabinetryref12_take.f, if_neg (by simp; omega), if_pos (by simp; omega), hr, if_pos h, wrap_id (by omega) (by omega)]
      simp [takeP, h]
    · refine ⟨2, ?_, by simp, fun h2 => by simp [takeP, h] at h2, fun _ => ⟨by omega, by simp [takeP, h]⟩⟩
      rw [PAll.cabinetryref12_take.f, if_neg (by simp; omega), if_pos (by simp; omega), hr, if_neg h, if_neg (by simp; omega), if_pos (by simp; omega), hr1]
      simp only [takeP, h, if_false]
      rw [wrap_id (x := x) (by omega) (by omega), wrap_id (x := y) (by omega) (by omega), wrap_id (x := 128 * y) (by omega) (by omega), wrap_id (x := x - 128) (by omega) (by omega), wrap_id (by omega) (by omega)]
      rfl
theorem takeR_any (A0 : Option Addr) (c0 : Nat) (l0 : List Int) (n : Nat) (w : World) (hr0 : Kd.C (Kd.int .u8) w A0 l0.length l0) (hc0 : l0.length ≤ c0) (h : PAll.cabinetryref12_take.f l0 = some ((takeP l0).1, (n : Int))) :
    Calls Try.prog 68 #[.slice A0 l0.length c0] w fun e w' => e = .returned (.tuple #[.int .i64 (takeP l0).1, .int .i64 (n : Int)]) ∧ Below w.heap.size w w' :=
  (PAll.cabinetryref12_take.calls A0 c0 l0 _ _ w hr0 hc0 h).mono fun e w' ⟨he, m, hm⟩ => ⟨he, hm ▸ pw_below_drewN (Below.refl _ _) m⟩
theorem numB_byte (n : Int) : ∀ x ∈ numB n, 0 ≤ x ∧ x ≤ 255 := by
  intro x hx
  unfold numB at hx
  split at hx
  · rw [List.mem_singleton] at hx; omega
  · simp only [List.mem_cons, List.not_mem_nil, or_false] at hx
    rcases hx with h | h <;> omega
theorem packG_byte : ∀ (rs : List (Int × Int)) (last : Int), ∀ x ∈ packG rs last, 0 ≤ x ∧ x ≤ 255
  | [], _, x, hx => by simp [packG] at hx
  | p :: rs, last, x, hx => by
    simp only [packG, List.mem_append] at hx
    rcases hx with (h | h) | h
    · exact numB_byte _ x h
    · exact numB_byte _ x h
    · exact packG_byte rs _ x h
theorem u8_back {x : Int} (h0 : 0 ≤ x) (h1 : x ≤ 255) : ((UInt8.ofNat x.toNat).toNat : Int) = x := by
  rw [UInt8.toNat_ofNat']
  omega
theorem nums_back : ∀ (a : List Int), (∀ x ∈ a, 0 ≤ x ∧ x ≤ 255) → (a.map (fun n => UInt8.ofNat n.toNat)).map (fun u => (u.toNat : Int)) = a
  | [], _ => rfl
  | x :: a, h => by
    have hx := h x (by simp)
    rw [List.map_cons, List.map_cons, nums_back a (fun y hy => h y (List.mem_cons_of_mem _ hy)), u8_back hx.1 hx.2]
theorem strOf_inj {a b : List Int} (ha : ∀ x ∈ a, 0 ≤ x ∧ x ≤ 255) (hb : ∀ x ∈ b, 0 ≤ x ∧ x ≤ 255) (h : strOfNums a = strOfNums b) : a = b := by
  have h1 := congrArg (fun s : ByteArray => s.data.toList) h
  simp only [strOfNums_data] at h1
  rw [← nums_back a ha, ← nums_back b hb, h1]
theorem str_ne {a b : ByteArray} (h : a ≠ b) : (a.toList == b.toList) = false := by
  rw [beq_eq_false_iff_ne]
  intro e
  rw [Go.Lib.toList_data, Go.Lib.toList_data] at e
  exact h (Go.WideShapes.bytes_inj e)
theorem setFrom_weak {n : Int} : ∀ {l : List Int} {p q : Int}, q ≤ p → setFrom n p l = true → setFrom n q l = true
  | [], _, _, _, _ => rfl
  | x :: l, p, q, hq, h => by
    simp only [setFrom, Bool.and_eq_true, decide_eq_true_eq] at h ⊢
    exact ⟨by omega, h.2⟩
theorem setFrom_append {n : Int} : ∀ {l : List Int} {p q : Int} {m : List Int}, setFrom n p l = true → (∀ x ∈ l, x ≤ q) → p ≤ q → setFrom n q m = true → setFrom n p (l ++ m) = true
  | [], p, q, m, _, _, hq, h => setFrom_weak hq h
  | x :: l, p, q, m, h1, h2, hq, h => by
    simp only [List.cons_append, setFrom, Bool.and_eq_true, decide_eq_true_eq] at h1 ⊢
    exact ⟨h1.1, h1.2.1, setFrom_append h1.2.2 (fun y hy => h2 y (List.mem_cons_of_mem _ hy)) (h2 x List.mem_cons_self) h⟩
theorem setFrom_fromTo {n c : Int} : ∀ {d : Nat} {p i : Int}, p < i → i + d - 1 ≤ n → setFrom n p (fromTo c d i) = true
  | 0, _, _, _, _ => rfl
  | d + 1, p, i, h, h2 => by
    simp only [fromTo, setFrom, Bool.and_eq_true, decide_eq_true_eq]
    exact ⟨h, by omega, setFrom_fromTo (by omega) (by omega)⟩
set_option maxHeartbeats 4000000 in
set_option maxRecDepth 100000 in
theorem UnpackR_any (A0 : Option Addr) (c0 : Nat) (b : List Int) (w : World) (hr0 : Kd.C (Kd.int .u8) w A0 b.length b) (hc0 : b.length ≤ c0) (hb : ∀ x ∈ b, 0 ≤ x ∧ x ≤ 255) (hn : b.length ≤ 3000) :
    Calls Try.prog 42 #[.slice A0 b.length c0] w fun e w' => ∃ v : Value, e = .returned (.tuple #[v, .int .i64 (unpackE b)]) ∧ Own w' w.heap.size v (unpackL b) ∧ Below w.heap.size w w' := by
  have HR0 := Aside0.mk hr0
  have HC0 := Aside0.mk hc0
  have HBY := Aside0.mk hb
  have HN := Aside0.mk hn
  have HSZ : Aside0 (∀ k, ∀ x ∈ b.drop k, 0 ≤ x ∧ x ≤ 255) := ⟨fun k x hx => HBY.out x (List.mem_of_mem_drop hx)⟩
  clear hr0 hc0 hb
  go_enter Try.func42, Try.ntmps42
  go_wp2_with fail
  go_loopw [4, 5, 6] (fun v4 v5 v6 wr => ∃ (out : List Int) (last : Int) (k f : Nat), v6 = .int .i64 (k : Int) ∧ k ≤ b.length ∧ v5 = .int .i64 last ∧ 0 ≤ last ∧ last ≤ 300 ∧ Aside0 (b.length - k + 1 ≤ f) ∧ Aside0 (decF f (b.drop k) last out = decF (b.length + 1) b 0 []) ∧ Aside0 ((out.length : Int) ≤ last ∧ setFrom 300 0 out = true ∧ ∀ x ∈ out, x ≤ last) ∧ Aside0 (Own wr w.heap.size v4 out) ∧ Aside0 (Below w.heap.size w wr)) (fun v4 v5 v6 wr => ((b.length : Int) - intOf v6).toNat)
  case atStart => exact ⟨[], 0, 0, b.length + 1, rfl, by omega, rfl, by omega, by omega, ⟨by omega⟩, ⟨rfl⟩, ⟨by simp [setFrom]⟩, ⟨Own.nil _ _⟩, ⟨Below.refl _ _⟩⟩
  case round =>
    obtain ⟨out, last, k, f, rfl, hk, rfl, hl1, hl2, HF, HD, HL, HO, HB⟩ := hrel
    by_cases hlt : k < b.length
    · have hltb : decide ((k : Int) < (b.length : Int)) = true := by simpa using hlt
      have HNE : Aside0 (b.drop k ≠ []) := ⟨fun e => by have := congrArg List.length e; rw [List.length_drop] at this; simp at this; omega⟩
      obtain ⟨n, hf1, hnl, hz1, hp1⟩ := takeR_f (b.drop k) (HSZ.out k)
      obtain ⟨A1, hcut1, hC1, hle1⟩ := cutO (A := A0) k (by omega) HC0.out
      rw [List.length_drop] at hnl
      obtain ⟨m, hf2, hml, hz2, hp2⟩ := takeR_f (b.drop (k + n)) (HSZ.out (k + n))
      obtain ⟨A2, hcut2, hC2, hle2⟩ := cutO (A := A0) (k + n) (by omega) HC0.out
      rw [List.length_drop] at hml
      have hs1 := takeP_spec _ (HSZ.out k)
      have hs2 := takeP_spec _ (HSZ.out (k + n))
      rw [show (((k + n : Nat)) : Int) = (k : Int) + (n : Int) by omega] at hcut2
      obtain ⟨R1, hR1⟩ : ∃ R, b.drop k = R := ⟨_, rfl⟩
      obtain ⟨R2, hR2⟩ : ∃ R, b.drop (k + n) = R := ⟨_, rfl⟩
      have hR3 : R2 = R1.drop n := by rw [← hR2, ← hR1, List.drop_drop]
      rw [hR1] at hf1 hz1 hp1 hcut1 hC1 hle1 hs1 HD HNE
      rw [hR2] at hf2 hz2 hp2 hcut2 hC2 hle2 hs2
      have HC1 := Aside0.mk (And.intro (hC1 w HR0.out) hle1)
      have HC2 := Aside0.mk (And.intro (hC2 w HR0.out) hle2)
      have HF1 := Aside0.mk hf1
      have HF2 := Aside0.mk hf2
      have HZ1 := Aside0.mk (And.intro hz1 hp1)
      have HZ2 := Aside0.mk (And.intro hz2 hp2)
      have HR12 := Aside0.mk hR3
      have HRR2 := Aside0.mk hR2
      obtain ⟨hg1, hg2⟩ := hs1.1
      obtain ⟨hm1, hm2⟩ := hs2.1
      clear hf1 hf2 hz1 hz2 hp1 hp2 hC1 hC2 hle1 hle2 hR1 hR2 hR3 hs1 hs2
      go_wp2_with fail
      refine (takeR_any A1 (c0 - k) R1 n _ (Kd.C_below HC1.out.1 HB.out) HC1.out.2 HF1.out).mono ?_
      rintro e w1 ⟨rfl, hb1⟩
      have HB1 := Aside0.mk (below_step HB.out hb1)
      have HO1 := Aside0.mk (Own.below HO.out hb1)
      clear hb1
      obtain ⟨gap, hgap⟩ : ∃ g, (takeP R1).1 = g := ⟨_, rfl⟩
      rw [hgap] at hg1 hg2 ⊢
      have HGAP := Aside0.mk hgap
      clear hgap
      go_wp2_with fail
      refine (takeR_any A2 (c0 - (k + n)) R2 m _ (Kd.C_below HC2.out.1 HB1.out) HC2.out.2 HF2.out).mono ?_
      rintro e w2 ⟨rfl, hb1⟩
      have HB2 := Aside0.mk (below_step HB1.out hb1)
      have HO2 := Aside0.mk (Own.below HO1.out hb1)
      clear hb1
      obtain ⟨mo, hmo⟩ : ∃ g, (takeP R2).1 = g := ⟨_, rfl⟩
      rw [hmo] at hm1 hm2 ⊢
      have HMO := Aside0.mk hmo
      clear hmo
      cases hok1 : (takeP R1).2.2
      · have HOK1 := Aside0.mk hok1
        clear hok1
        obtain rfl : n = 0 := HZ1.out.1 HOK1.out
        have HU : Aside0 (unpackO b = none) := ⟨by
          unfold unpackO
          rw [← HD.out]
          obtain ⟨g, rfl⟩ : ∃ g, f = g + 1 := ⟨f - 1, by have := HF.out; omega⟩
          rw [decF, if_neg HNE.out, HOK1.out, if_pos rfl]⟩
        go_wp2_with fail
        go_ret2
        exact ⟨_, by rw [unpackE, HU.out]; rfl, by rw [unpackL, HU.out]; exact Own.nil _ _, HB2.out⟩
      · have HOK1 := Aside0.mk hok1
        clear hok1
        have HT1 : Aside0 ((takeP R1).2.1 = R2) := ⟨by rw [(HZ1.out.2 HOK1.out).2, ← HR12.out]⟩
        have hnp : 0 < n := (HZ1.out.2 HOK1.out).1
        have hnz : ((n : Int) == 0) = false := by simp; omega
        cases hok2 : (takeP R2).2.2
        · have HOK2 := Aside0.mk hok2
          clear hok2
          obtain rfl : m = 0 := HZ2.out.1 HOK2.out
          have HU : Aside0 (unpackO b = none) := ⟨by
            unfold unpackO
            rw [← HD.out]
            obtain ⟨g, rfl⟩ : ∃ g, f = g + 1 := ⟨f - 1, by have := HF.out; omega⟩
            rw [decF, if_neg HNE.out, HOK1.out, HT1.out, HOK2.out, if_neg (by decide), if_pos rfl]⟩
          go_wp2_with fail
          go_ret2
          exact ⟨_, by rw [unpackE, HU.out]; rfl, by rw [unpackL, HU.out]; exact Own.nil _ _, HB2.out⟩
        · have HOK2 := Aside0.mk hok2
          clear hok2
          have hmp : 0 < m := (HZ2.out.2 HOK2.out).1
          have hmz : ((m : Int) == 0) = false := by simp; omega
          by_cases hbig : last + gap + 1 + mo > 300
          · have hbigb := decide_eq_true hbig
            have HU : Aside0 (unpackO b = none) := ⟨by
              unfold unpackO
              rw [← HD.out]
              obtain ⟨g, rfl⟩ : ∃ g, f = g + 1 := ⟨f - 1, by have := HF.out; omega⟩
              rw [decF, if_neg HNE.out, HOK1.out, HT1.out, HOK2.out, if_neg (by decide), if_neg (by decide), HGAP.out, HMO.out, if_pos hbig]⟩
            go_wp2_with fail
            go_ret2
            exact ⟨_, by rw [unpackE, HU.out]; rfl, by rw [unpackL, HU.out]; exact Own.nil _ _, HB2.out⟩
          · have hbigb := decide_eq_false hbig
            have HBIG := Aside0.mk hbig
            clear hbig
            go_wp2_with fail
            go_loopw [4, 11] (fun v4 v11 wq => ∃ (j : Nat) (at_ : Int), v11 = .int .i64 at_ ∧ last + gap + 1 ≤ at_ ∧ at_ ≤ last + gap + 1 + mo + 1 ∧ Aside0 (at_ = last + gap + 1 + (j : Int)) ∧ Aside0 (Own wq w.heap.size v4 (out ++ fromTo 0 j (last + gap + 1))) ∧ Aside0 (Below w.heap.size w wq)) (fun v4 v11 wq => (last + gap + 1 + mo + 1 - intOf v11).toNat)
            case atStart => exact ⟨0, _, rfl, by omega, by omega, ⟨by omega⟩, ⟨by simpa [fromTo] using HO2.out⟩, HB2⟩
            case round =>
              obtain ⟨j, at_, rfl, hj1, hj2, HAT, HO3, HB3⟩ := hrel
              have hbb := HBIG.out
              have HJL : Aside0 ((out ++ fromTo 0 j (last + gap + 1)).length ≤ 1000000) := ⟨by have := HL.out.1; have := HAT.out; rw [List.length_append, fromTo_length]; omega⟩
              by_cases hle : at_ ≤ last + gap + 1 + mo
              · have hleb := decide_eq_true hle
                go_wp2_with (at_builtin; refine app1 (w0 := w) (W := wr) w.heap.size (by rfl) _ _ (by rfl) u4 (out ++ fromTo 0 j (last + gap + 1)) at_ (by rfl) (by rfl) HO3.out HB3.out HB3.out.size (by have := HJL.out; omega) ?_; intro v4 w4 ho hb; have HO4 := Aside0.mk ho; have HB4 := Aside0.mk hb; clear ho hb)
                go_roundw
                case rel => exact ⟨j + 1, at_ + 1, rfl, by omega, by omega, ⟨by have := HAT.out; omega⟩, ⟨by rw [fromTo_snoc, ← List.append_assoc, ← HAT.out]; exact HO4.out⟩, HB4⟩
                case measure => simp [intOf]; omega
              · have hleb := decide_eq_false hle
                have HJM : Aside0 ((mo + 1).toNat = j) := ⟨by have := HAT.out; omega⟩
                go_wp2_with fail
                go_roundw
                case rel => exact ⟨out ++ fromTo 0 j (last + gap + 1), last + gap + 1 + mo, k + n + m, f - 1, by go_num, by omega, rfl, by omega, by omega, ⟨by have := HF.out; omega⟩, ⟨by
                  rw [← HD.out]
                  obtain ⟨g, rfl⟩ : ∃ g, f = g + 1 := ⟨f - 1, by have := HF.out; omega⟩
                  rw [decF, if_neg HNE.out, HOK1.out, HT1.out, HOK2.out, if_neg (by decide), if_neg (by decide), HGAP.out, HMO.out, if_neg (by have := HBIG.out; omega), Nat.add_sub_cancel, HJM.out, (HZ2.out.2 HOK2.out).2, ← HRR2.out, List.drop_drop]⟩, ⟨by
                  have h1 := HL.out
                  have h2 := HJM.out
                  refine ⟨by rw [List.length_append, fromTo_length]; omega, setFrom_append h1.2.1 h1.2.2 hl1 (setFrom_fromTo (by omega) (by omega)), fun x hx => ?_⟩
                  rcases List.mem_append.1 hx with h | h
                  · have := h1.2.2 x h; omega
                  · rw [fromTo_mem] at h; omega⟩, HO3, HB3⟩
                case measure =>
                  simp [intOf]; omega
    · have hltb : decide ((k : Int) < (b.length : Int)) = false := by simpa using hlt
      obtain rfl : k = b.length := by omega
      have HDS : Aside0 (decF (b.length + 1) b 0 [] = some out) := ⟨by
        rw [← HD.out, List.drop_length]
        obtain ⟨g, rfl⟩ : ∃ g, f = g + 1 := ⟨f - 1, by have := HF.out; omega⟩
        rw [decF, if_pos rfl]⟩
      have HKE : Aside0 (knownE out = 0) := ⟨if_pos HL.out.2.1⟩
      have HPL : Aside0 (packL out = packF out) := ⟨if_pos HL.out.2.1⟩
      obtain ⟨A4, c4, rfl, hc4, hr4⟩ := HO.out.slice
      have HR4 := Aside0.mk hr4
      have HC4 := Aside0.mk hc4
      clear hr4 hc4
      go_wp2_with fail
      refine (PackR_any A4 c4 out _ HR4.out HC4.out (by have := HL.out.1; omega)).mono ?_
      rintro e w1 ⟨v, rfl, ho, hb⟩
      rw [HKE.out]
      rw [HPL.out] at ho
      obtain ⟨A5, c5, rfl, hc5, hr5⟩ := ho.slice
      have HR5 := Aside0.mk hr5
      have HC5 := Aside0.mk hc5
      have HB1 := Aside0.mk (below_step HB.out hb)
      have HO1 := Aside0.mk (Own.below HO.out hb)
      have hcv1 : (convert 53 9 (.slice A5 (packF out).length c5)).run Try.prog w1 = .ok (.string (strOfNums (packF out))) w1 := Kd.C_string Try.underlying53 Try.underlying5 Try.underlying9 HR5.out
      have hcv2 : (convert 53 9 (.slice A0 b.length c0)).run Try.prog w1 = .ok (.string (strOfNums b)) w1 := Kd.C_string Try.underlying53 Try.underlying5 Try.underlying9 (Kd.C_below HR0.out HB1.out)
      clear ho hr5 hc5 hb
      by_cases hq : packF out = b
      · have HU : Aside0 (unpackO b = some out) := ⟨by unfold unpackO; rw [HDS.out]; exact if_pos hq⟩
        have hse : strOfNums (packF out) = strOfNums b := by rw [hq]
        obtain ⟨s1, hs1⟩ : ∃ s, strOfNums b = s := ⟨_, rfl⟩
        rw [hse, hs1] at hcv1
        rw [hs1] at hcv2
        clear hse hs1 hq
        go_wp2_with fail
        go_ret2
        exact ⟨_, by rw [unpackE, HU.out]; rfl, by rw [unpackL, HU.out]; exact HO1.out, HB1.out⟩
      · have HU : Aside0 (unpackO b = none) := ⟨by unfold unpackO; rw [HDS.out]; exact if_neg hq⟩
        have hse : strOfNums (packF out) ≠ strOfNums b := fun e => hq (strOf_inj (packG_byte _ _) HBY.out e)
        obtain ⟨s1, hs1⟩ : ∃ s, strOfNums b = s := ⟨_, rfl⟩
        obtain ⟨s2, hs2⟩ : ∃ s, strOfNums (packF out) = s := ⟨_, rfl⟩
        rw [hs1, hs2] at hse
        rw [hs2] at hcv1
        rw [hs1] at hcv2
        clear hs1 hs2 hq
        have hne1 := str_ne hse
        have HSE := Aside0.mk hse
        clear hse
        go_wp2_with fail
        go_ret2
        exact ⟨_, by rw [unpackE, HU.out]; rfl, by rw [unpackL, HU.out]; exact Own.nil _ _, HB1.out⟩
end Go.Proofs.Ytpbdlkbiiglkdaa

/- Unmap, and its reference: one plain function. -/
set_option linter.unusedVariables false
set_option linter.unusedSimpArgs false
namespace Go.Proofs.Ytpbdlkbiiglkdaa
open Go.RowKit Go.Proofs.YtpbdlkbiiglkdaaW.PrintWords Go.Proofs.YtpbdlkbiiglkdaaW.PrintLast Go.Proofs.YtpbdlkbiiglkdaaW.PrintMore Go.Proofs.Cab
def bitAt (b : List Int) (i : Nat) : Int := Go.bits .and .u8 (shr .u8 (rd b ((i / 8 : Nat) : Int)) ((i % 8 : Nat) : Int)) 1
def unmapG (b : List Int) (n : Int) : Nat → Nat → List Int → List Int × Int
  | 0, _, out => (out, 0)
  | d + 1, i, out => if bitAt b i = 0 then unmapG b n d (i + 1) out else if (i : Int) ≥ n then ([], 11) else unmapG b n d (i + 1) (out ++ [(i : Int) + 1])
def unmapP (b : List Int) (n : Int) : List Int × Int := if countB n = true then (if (b.length : Int) = (n + 7) / 8 then unmapG b n (8 * b.length) 0 [] else ([], 11)) else ([], 1)
theorem tdiv8 (i : Nat) : Int.tdiv (i : Int) 8 = ((i / 8 : Nat) : Int) := by
  rw [Int.tdiv_eq_ediv_of_nonneg (by omega)]; omega
theorem tmod8 (i : Nat) : Int.tmod (i : Int) 8 = ((i % 8 : Nat) : Int) := by
  rw [Int.tmod_eq_emod_of_nonneg (by omega)]; omega
theorem unmap_l0 (b : List Int) (n : Int) (hb : b.length ≤ 3000) : ∀ (d i : Nat) (out : List Int), 8 * b.length - i = d → i ≤ 8 * b.length → out.length ≤ i →
    PAll.bits_Unmap.l0 (d + 1) b n out (8 * (b.length : Int)) (i : Int) = some (unmapG b n d i out) := by
  intro d
  induction d with
  | zero =>
    intro i out hd hi ho
    rw [PAll.bits_Unmap.l0, if_neg (by omega)]
    rfl
  | succ d ih =>
    intro i out hd hi ho
    have hw : wrap64 ((i : Int) + 1) = ((i + 1 : Nat) : Int) := by rw [wrap_id (by omega) (by omega)]; omega
    rw [PAll.bits_Unmap.l0, if_pos (by omega), tdiv8, tmod8, wrap_id (by omega) (by omega), if_pos (by omega), if_pos (by omega), if_pos (by omega), hw]
    rw [show Go.bits .and .u8 (shr .u8 (rd b ((i / 8 : Nat) : Int)) ((i % 8 : Nat) : Int)) 1 = bitAt b i from rfl, unmapG]
    by_cases h : bitAt b i = 0
    · rw [if_pos h, if_pos h]
      exact ih (i + 1) out (by omega) (by omega) (by omega)
    · rw [if_neg h, if_neg h]
      by_cases h2 : (i : Int) ≥ n
      · rw [if_pos h2, if_pos h2]
      · rw [if_neg h2, if_neg h2, if_pos (by omega)]
        have := ih (i + 1) (out ++ [((i + 1 : Nat) : Int)]) (by omega) (by omega) (by rw [List.length_append, List.length_singleton]; omega)
        rw [this]
        simp
theorem unmapR_l0 (b : List Int) (n : Int) (hb : b.length ≤ 3000) : ∀ (d i : Nat) (out : List Int), 8 * b.length - i = d → i ≤ 8 * b.length → out.length ≤ i →
    PAll.cabinetryref12_Unmap.l0 (d + 1) b n out ((i : Int) + 1) = some (unmapG b n d i out) := by
  intro d
  induction d with
  | zero =>
    intro i out hd hi ho
    rw [PAll.cabinetryref12_Unmap.l0, wrap_id (x := 8 * (b.length : Int)) (by omega) (by omega), if_neg (by omega)]
    rfl
  | succ d ih =>
    intro i out hd hi ho
    have hw : wrap64 ((i : Int) + 1 + 1) = ((i + 1 : Nat) : Int) + 1 := by rw [wrap_id (by omega) (by omega)]; omega
    have hw1 : wrap64 ((i : Int) + 1 - 1) = (i : Int) := by rw [wrap_id (by omega) (by omega)]; omega
    rw [PAll.cabinetryref12_Unmap.l0, wrap_id (x := 8 * (b.length : Int)) (by omega) (by omega), if_pos (by omega), hw1, tdiv8, tmod8, wrap_id (by omega) (by omega), if_pos (by omega), if_pos (by omega), if_pos (by omega), hw]
    rw [show Go.bits .and .u8 (shr .u8 (rd b ((i / 8 : Nat) : Int)) ((i % 8 : Nat) : Int)) 1 = bitAt b i from rfl, unmapG]
    by_cases h : bitAt b i = 0
    · rw [if_pos h, if_pos h]
      exact ih (i + 1) out (by omega) (by omega) (by omega)
    · rw [if_neg h, if_neg h]
      by_cases h2 : (i : Int) ≥ n
      · rw [if_pos (by omega), if_pos h2]
      · rw [if_neg (by omega), if_neg h2, if_pos (by omega)]
        exact ih (i + 1) (out ++ [(i : Int) + 1]) (by omega) (by omega) (by rw [List.length_append, List.length_singleton]; omega)
theorem count_div {n : Int} (h : countB n = true) : wrap64 (Int.tdiv (wrap64 (n + 7)) 8) = (n + 7) / 8 := by
  have h1 : 0 ≤ n ∧ n ≤ 300 := by simpa [countB] using h
  rw [wrap_id (x := n + 7) (by omega) (by omega), Int.tdiv_eq_ediv_of_nonneg (by omega), wrap_id (by omega) (by omega)]
theorem unmap_f (b : List Int) (n : Int) (hb : b.length ≤ 3000) : ∃ k, PAll.bits_Unmap.f k b n = some ((unmapP b n).1, (unmapP b n).2) := by
  refine ⟨8 * b.length + 1, ?_⟩
  rw [PAll.bits_Unmap.f, isCount_f, Option.bind_some]
  unfold unmapP
  by_cases h : countB n = true
  · rw [if_pos h, if_pos h, count_div h]
    by_cases h2 : (b.length : Int) = (n + 7) / 8
    · rw [if_pos h2, if_pos h2, wrap_id (by omega) (by omega)]
      exact unmap_l0 b n hb (8 * b.length) 0 [] (by omega) (by omega) (by simp)
    · rw [if_neg h2, if_neg h2]
  · rw [if_neg h, if_neg h]
theorem unmapR_f (b : List Int) (n : Int) (hb : b.length ≤ 3000) : ∃ k, PAll.cabinetryref12_Unmap.f k b n = some ((unmapP b n).1, (unmapP b n).2) := by
  refine ⟨8 * b.length + 1, ?_⟩
  rw [PAll.cabinetryref12_Unmap.f, isBelowR_f _ _ (by simp) rfl, Option.bind_some, show setB n [] = true from rfl, Bool.and_true]
  unfold unmapP
  by_cases h : countB n = true
  · rw [if_pos h, if_pos h, count_div h]
    by_cases h2 : (b.length : Int) = (n + 7) / 8
    · rw [if_pos h2, if_pos h2]
      exact unmapR_l0 b n hb (8 * b.length) 0 [] (by omega) (by omega) (by simp)
    · rw [if_neg h2, if_neg h2]
  · rw [if_neg h, if_neg h]
theorem Unmap_any (A0 : Option Addr) (c0 : Nat) (b : List Int) (n : Int) (w : World) (hr0 : Kd.C (Kd.int .u8) w A0 b.length b) (hc0 : b.length ≤ c0) (hn : b.length ≤ 3000) :
    Calls Try.prog 39 #[.slice A0 b.length c0, .int .i64 n] w fun e w' => ∃ v : Value, e = .returned (.tuple #[v, .int .i64 (unmapP b n).2]) ∧ Own w' w.heap.size v (unmapP b n).1 ∧ Below w.heap.size w w' := by
  obtain ⟨k, hk⟩ := unmap_f b n hn
  exact PAll.bits_Unmap.calls k A0 c0 b n _ _ w hr0 hc0 hk
theorem UnmapR_any (A0 : Option Addr) (c0 : Nat) (b : List Int) (n : Int) (w : World) (hr0 : Kd.C (Kd.int .u8) w A0 b.length b) (hc0 : b.length ≤ c0) (hn : b.length ≤ 3000) :
    Calls Try.prog 40 #[.slice A0 b.length c0, .int .i64 n] w fun e w' => ∃ v : Value, e = .returned (.tuple #[v, .int .i64 (unmapP b n).2]) ∧ Own w' w.heap.size v (unmapP b n).1 ∧ Below w.heap.size w w' := by
  obtain ⟨k, hk⟩ := unmapR_f b n hn
  exact PAll.cabinetryref12_Unmap.calls k A0 c0 b n _ _ w hr0 hc0 hk
end Go.Proofs.Ytpbdlkbiiglkdaa

/- Map, its reference, and Unmap of what Map makes: plain laws. -/
set_option linter.unusedVariables false
set_option linter.unusedSimpArgs false
namespace Go.Proofs.Ytpbdlkbiiglkdaa
open Go.RowKit Go.Proofs.YtpbdlkbiiglkdaaW.PrintWords Go.Proofs.YtpbdlkbiiglkdaaW.PrintLast Go.Proofs.YtpbdlkbiiglkdaaW.PrintMore Go.Proofs.Cab
set_option maxRecDepth 1000000 in
set_option maxHeartbeats 4000000 in
theorem byte_or : ∀ v : Fin 256, ∀ j : Fin 8, (v.1 / 2 ^ j.1) % 2 = 0 → Go.bits .or .u8 ((v.1 : Nat) : Int) (shl .u8 1 ((j.1 : Nat) : Int)) = ((v.1 + 2 ^ j.1 : Nat) : Int) ∧ (((v.1 : Nat) : Int) + shl .u8 1 ((j.1 : Nat) : Int)) % 256 = ((v.1 + 2 ^ j.1 : Nat) : Int) ∧ v.1 + 2 ^ j.1 < 256 := by decide +kernel
set_option maxRecDepth 1000000 in
set_option maxHeartbeats 4000000 in
theorem byte_and : ∀ v : Fin 256, ∀ j : Fin 8, Go.bits .and .u8 (shr .u8 ((v.1 : Nat) : Int) ((j.1 : Nat) : Int)) 1 = ((v.1 / 2 ^ j.1 % 2 : Nat) : Int) := by decide +kernel
set_option maxRecDepth 1000000 in
set_option maxHeartbeats 4000000 in
theorem byte_bits : ∀ v : Fin 256, ∀ j i : Fin 8, (v.1 / 2 ^ j.1) % 2 = 0 → ((v.1 + 2 ^ j.1) / 2 ^ i.1) % 2 = if i.1 = j.1 then 1 else (v.1 / 2 ^ i.1) % 2 := by decide +kernel

/-- Bytes say which numbers are in a list. -/
def Says (out : List Int) (m : Nat) (s : List Int) : Prop := out.length = m ∧ ∀ k, k < m → ∃ v : Nat, v < 256 ∧ rd out (k : Int) = (v : Int) ∧ ∀ j, j < 8 → v / 2 ^ j % 2 = if ((8 * k + j + 1 : Nat) : Int) ∈ s then 1 else 0
def mapG (out : List Int) : List Int → List Int
  | [] => out
  | x :: r => mapG (out.set ((x - 1) / 8).toNat (rd out ((x - 1) / 8) + 2 ^ ((x - 1) % 8).toNat)) r
theorem says_nil (m : Nat) : Says (List.replicate m 0) m [] := by
  refine ⟨by simp, fun k hk => ⟨0, by omega, ?_, fun j hj => by simp⟩⟩
  unfold rd
  simp [List.getD_eq_getElem?_getD, hk]
theorem rd_set (l : List Int) (i k : Nat) (v : Int) (h : i < l.length) : rd (l.set i v) (k : Int) = if k = i then v else rd l (k : Int) := by
  unfold rd
  simp only [Int.toNat_natCast, List.getD_eq_getElem?_getD]
  by_cases e : k = i
  · subst e
    rw [if_pos rfl, List.getElem?_set_self h]
    rfl
  · rw [if_neg e, List.getElem?_set_ne (fun h => e h.symm)]
theorem says_step {out s : List Int} {m : Nat} {x : Int} (h : Says out m s) (h1 : 1 ≤ x) (h2 : (x - 1) / 8 < m) (hx : x ∉ s) :
    Says (out.set ((x - 1) / 8).toNat (rd out ((x - 1) / 8) + 2 ^ ((x - 1) % 8).toNat)) m (s ++ [x]) ∧
      Go.bits .or .u8 (rd out ((x - 1) / 8)) (shl .u8 1 ((x - 1) % 8)) = rd out ((x - 1) / 8) + 2 ^ ((x - 1) % 8).toNat ∧
      (rd out ((x - 1) / 8) + shl .u8 1 ((x - 1) % 8)) % 256 = rd out ((x - 1) / 8) + 2 ^ ((x - 1) % 8).toNat := by
  obtain ⟨k, hk⟩ : ∃ k : Nat, (x - 1) / 8 = k := ⟨((x - 1) / 8).toNat, by omega⟩
  obtain ⟨j, hj⟩ : ∃ j : Nat, (x - 1) % 8 = j := ⟨((x - 1) % 8).toNat, by omega⟩
  have hj8 : j < 8 := by omega
  have hkm : k < m := by omega
  have hxe : x = ((8 * k + j + 1 : Nat) : Int) := by omega
  rw [hk, hj, Int.toNat_natCast, Int.toNat_natCast]
  obtain ⟨v, hv, hr, hb⟩ := h.2 k hkm
  have hz : v / 2 ^ j % 2 = 0 := by rw [hb j hj8, if_neg (by rw [← hxe]; exact hx)]
  obtain ⟨q1, q2, q3⟩ := byte_or ⟨v, hv⟩ ⟨j, hj8⟩ hz
  have hcast : ((v + 2 ^ j : Nat) : Int) = rd out (k : Int) + 2 ^ j := by rw [hr]; push_cast; rfl
  refine ⟨⟨by rw [List.length_set]; exact h.1, fun k' hk' => ?_⟩, ?_, ?_⟩
  · rw [rd_set _ _ _ _ (by rw [h.1]; exact hkm)]
    by_cases e : k' = k
    · subst e
      rw [if_pos rfl]
      refine ⟨v + 2 ^ j, q3, hcast.symm, fun i hi => ?_⟩
      rw [byte_bits ⟨v, hv⟩ ⟨j, hj8⟩ ⟨i, hi⟩ hz]
      simp only [List.mem_append, List.mem_singleton]
      by_cases e2 : i = j
      · subst e2
        rw [if_pos rfl, if_pos (Or.inr hxe.symm)]
      · rw [if_neg e2, hb i hi]
        by_cases e3 : ((8 * k' + i + 1 : Nat) : Int) ∈ s
        · rw [if_pos e3, if_pos (Or.inl e3)]
        · rw [if_neg e3, if_neg (by rintro (h | h); exact e3 h; omega)]
    · rw [if_neg e]
      obtain ⟨v', hv', hr', hb'⟩ := h.2 k' hk'
      refine ⟨v', hv', hr', fun i hi => ?_⟩
      rw [hb' i hi]
      simp only [List.mem_append, List.mem_singleton]
      by_cases e3 : ((8 * k' + i + 1 : Nat) : Int) ∈ s
      · rw [if_pos e3, if_pos (Or.inl e3)]
      · rw [if_neg e3, if_neg (by rintro (h | h); exact e3 h; omega)]
  · rw [← hcast, hr]; exact q1
  · rw [← hcast, hr]; exact q2
theorem mapG_says {m : Nat} : ∀ (r : List Int) (out s : List Int), Says out m s → (∀ x ∈ r, 1 ≤ x ∧ (x - 1) / 8 < m) → r.Pairwise (· < ·) → (∀ y ∈ s, ∀ x ∈ r, y < x) → Says (mapG out r) m (s ++ r)
  | [], out, s, h, _, _, _ => by rw [List.append_nil]; exact h
  | x :: r, out, s, h, hx, hp, hs => by
    have hp' := List.pairwise_cons.1 hp
    have h0 := hx x List.mem_cons_self
    have := mapG_says r _ (s ++ [x]) (says_step h h0.1 h0.2 (fun e => by have := hs x e x List.mem_cons_self; omega)).1 (fun y hy => hx y (List.mem_cons_of_mem _ hy)) hp'.2 (fun y hy z hz => by
      rcases List.mem_append.1 hy with hy | hy
      · exact hs y hy z (List.mem_cons_of_mem _ hz)
      · rw [List.mem_singleton] at hy; subst hy; exact hp'.1 z hz)
    rw [List.append_assoc] at this
    exact this
theorem idx8 {x : Int} (h : 1 ≤ x) (h2 : x ≤ 300) : wrap64 (Int.tdiv (wrap64 (x - 1)) 8) = (x - 1) / 8 ∧ Int.tmod (wrap64 (x - 1)) 8 = (x - 1) % 8 := by
  rw [wrap_id (x := x - 1) (by omega) (by omega), Int.tdiv_eq_ediv_of_nonneg (by omega), Int.tmod_eq_emod_of_nonneg (by omega), wrap_id (by omega) (by omega)]
  exact ⟨rfl, rfl⟩
theorem map_l0 (l : List Int) (m : Nat) (hx : ∀ x ∈ l, 1 ≤ x ∧ x ≤ 300 ∧ (x - 1) / 8 < m) (hp : l.Pairwise (· < ·)) (hl : l.length ≤ 300) : ∀ (d i k : Nat) (out : List Int), l.length - i = d → i ≤ l.length → d + 1 ≤ k → Says out m (l.take i) →
    PAll.bits_Map.l0 k out l (l.length : Int) (i : Int) = some (mapG out (l.drop i), 0)
  | 0, i, k + 1, out, hd, hi, hk, hs => by
    obtain rfl : i = l.length := by omega
    rw [PAll.bits_Map.l0, if_neg (by omega), List.drop_length]
    rfl
  | d + 1, i, k + 1, out, hd, hi, hk, hs => by
    have hlt : i < l.length := by omega
    have hxi := hx l[i] (List.getElem_mem hlt)
    have E12 := Aside0.mk (idx8 hxi.1 hxi.2.1)
    have hni : l[i] ∉ l.take i := by
      intro h
      obtain ⟨j, hj, he⟩ := List.mem_iff_getElem.1 h
      rw [List.length_take] at hj
      rw [List.getElem_take] at he
      have := List.pairwise_iff_getElem.1 hp j i (by omega) hlt (by omega)
      omega
    have st := Aside0.mk (says_step hs hxi.1 hxi.2.2 hni)
    have hw : wrap64 ((i : Int) + 1) = ((i + 1 : Nat) : Int) := by rw [wrap_id (by omega) (by omega)]; omega
    rw [PAll.bits_Map.l0]
    refine (if_pos (by omega)).trans ?_
    refine (if_pos (by omega)).trans ?_
    refine (if_pos (by omega)).trans ?_
    rw [rd_at l i hlt, E12.out.1, E12.out.2]
    refine (if_pos (by omega)).trans ?_
    refine (if_pos (by rw [hs.1]; exact hxi.2.2)).trans ?_
    refine (if_pos (by omega)).trans ?_
    rw [hw, st.out.2.1, drop_at l i hlt]
    exact map_l0 l m hx hp hl d (i + 1) k _ (by omega) (by omega) (by omega) (by rw [List.take_succ_eq_append_getElem hlt]; exact st.out.1)
theorem mapR_l0 (l : List Int) (m : Nat) (hx : ∀ x ∈ l, 1 ≤ x ∧ x ≤ 300 ∧ (x - 1) / 8 < m) (hp : l.Pairwise (· < ·)) (hl : l.length ≤ 300) : ∀ (d i k : Nat) (out : List Int), l.length - i = d → i ≤ l.length → d + 1 ≤ k → Says out m (l.take i) →
    PAll.cabinetryref12_Map.l0 k l out (i : Int) = some (mapG out (l.drop i), 0)
  | 0, i, k + 1, out, hd, hi, hk, hs => by
    obtain rfl : i = l.length := by omega
    rw [PAll.cabinetryref12_Map.l0, if_neg (by omega), List.drop_length]
    rfl
  | d + 1, i, k + 1, out, hd, hi, hk, hs => by
    have hlt : i < l.length := by omega
    have hxi := hx l[i] (List.getElem_mem hlt)
    have E12 := Aside0.mk (idx8 hxi.1 hxi.2.1)
    have hni : l[i] ∉ l.take i := by
      intro h
      obtain ⟨j, hj, he⟩ := List.mem_iff_getElem.1 h
      rw [List.length_take] at hj
      rw [List.getElem_take] at he
      have := List.pairwise_iff_getElem.1 hp j i (by omega) hlt (by omega)
      omega
    have st := Aside0.mk (says_step hs hxi.1 hxi.2.2 hni)
    have hw : wrap64 ((i : Int) + 1) = ((i + 1 : Nat) : Int) := by rw [wrap_id (by omega) (by omega)]; omega
    rw [PAll.cabinetryref12_Map.l0]
    refine (if_pos (by omega)).trans ?_
    refine (if_pos (by omega)).trans ?_
    rw [rd_at l i hlt, E12.out.1, E12.out.2]
    refine (if_pos (by omega)).trans ?_
    refine (if_pos (by rw [hs.1]; exact hxi.2.2)).trans ?_
    refine (if_pos (by omega)).trans ?_
    rw [hw, st.out.2.2, drop_at l i hlt]
    exact mapR_l0 l m hx hp hl d (i + 1) k _ (by omega) (by omega) (by omega) (by rw [List.take_succ_eq_append_getElem hlt]; exact st.out.1)
def mapOK (l : List Int) (n : Int) : Bool := countB n && setB n l
def mapP (l : List Int) (n : Int) : List Int × Int := if mapOK l n = true then (mapG (List.replicate ((n + 7) / 8).toNat 0) l, 0) else ([], 1)
theorem setB_300 {n : Int} {l : List Int} (hn : n ≤ 300) (h : setB n l = true) : setB 300 l = true := by
  have key : ∀ (l : List Int) (p : Int), setFrom n p l = true → setFrom 300 p l = true := by
    intro l
    induction l with
    | nil => intro p _; rfl
    | cons x l ih =>
      intro p h
      simp only [setFrom, Bool.and_eq_true, decide_eq_true_eq] at h ⊢
      exact ⟨h.1, by omega, ih x h.2.2⟩
  exact key l 0 h
theorem mapOK_iff {l : List Int} {n : Int} (h : mapOK l n = true) : (0 ≤ n ∧ n ≤ 300) ∧ setB n l = true := by
  unfold mapOK countB at h
  simp only [Bool.and_eq_true, decide_eq_true_eq] at h
  exact ⟨h.1, h.2⟩
theorem map_args {l : List Int} {n : Int} (h : mapOK l n = true) : (∀ x ∈ l, 1 ≤ x ∧ x ≤ 300 ∧ (x - 1) / 8 < (((n + 7) / 8).toNat : Int)) ∧ l.Pairwise (· < ·) ∧ l.length ≤ 300 := by
  obtain ⟨⟨h0, h1⟩, h2⟩ := mapOK_iff h
  exact ⟨fun x hx => by have := set_mem h2 x hx; omega, set_asc h2, setB_length (setB_300 h1 h2)⟩
theorem map_j0 (l : List Int) (n : Int) (k : Nat) (hl : l.length ≤ 3000) (hk : 4000 ≤ k) : PAll.bits_Map.j0 k l n (!mapOK l n) = some ((mapP l n).1, (mapP l n).2) := by
  obtain ⟨k, rfl⟩ : ∃ j, k = j + 1 := ⟨k - 1, by omega⟩
  rw [PAll.bits_Map.j0]
  unfold mapP
  by_cases h : mapOK l n = true
  · have hc : countB n = true := by unfold mapOK at h; simp only [Bool.and_eq_true] at h; exact h.1
    obtain ⟨⟨h0, h1⟩, h2⟩ := mapOK_iff h
    obtain ⟨a1, a2, a3⟩ := map_args h
    rw [h, if_neg (by decide), if_pos rfl, count_div hc, if_pos (by omega), if_pos (by omega)]
    have := map_l0 l ((n + 7) / 8).toNat a1 a2 a3 l.length 0 k (List.replicate ((n + 7) / 8).toNat 0) (by omega) (by omega) (by omega) (by rw [List.take_zero]; exact says_nil _)
    rw [List.drop_zero] at this
    exact this
  · rw [if_neg h, Bool.eq_false_iff.2 h, if_pos (by decide)]
theorem mapR_j0 (l : List Int) (n : Int) (k : Nat) (hl : l.length ≤ 3000) (hk : 4000 ≤ k) : PAll.cabinetryref12_Map.j0 k l n (!mapOK l n) = some ((mapP l n).1, (mapP l n).2) := by
  obtain ⟨k, rfl⟩ : ∃ j, k = j + 1 := ⟨k - 1, by omega⟩
  rw [PAll.cabinetryref12_Map.j0]
  unfold mapP
  by_cases h : mapOK l n = true
  · have hc : countB n = true := by unfold mapOK at h; simp only [Bool.and_eq_true] at h; exact h.1
    obtain ⟨⟨h0, h1⟩, h2⟩ := mapOK_iff h
    obtain ⟨a1, a2, a3⟩ := map_args h
    rw [h, if_neg (by decide), if_pos rfl, count_div hc, if_pos (by omega), if_pos (by omega)]
    have := mapR_l0 l ((n + 7) / 8).toNat a1 a2 a3 l.length 0 k (List.replicate ((n + 7) / 8).toNat 0) (by omega) (by omega) (by omega) (by rw [List.take_zero]; exact says_nil _)
    rw [List.drop_zero] at this
    exact this
  · rw [if_neg h, Bool.eq_false_iff.2 h, if_pos (by decide)]
theorem isSet_k (l : List Int) (n : Int) (k : Nat) (hl : l.length ≤ 3000) (hk : 4000 ≤ k) : PAll.bits_isSet.f k l n = some (setB n l) := by
  obtain ⟨d, rfl⟩ : ∃ d, k = (l.length + 1) + d := ⟨k - (l.length + 1), by omega⟩
  clear hk
  have h0 : PAll.bits_isSet.f (l.length + 1) l n = some (setB n l) := by
    have := isSet_l0 l n (by omega) (l.length - 0) 0 rfl (by omega) 0 (by omega) (fun _ => rfl) (fun h => by omega)
    simpa [PAll.bits_isSet.f, setB] using this
  induction d with
  | zero => exact h0
  | succ d ih => exact PAll.bits_isSet.mono l n (l.length + 1 + d) _ (ih)
theorem map_f (l : List Int) (n : Int) (hl : l.length ≤ 3000) : PAll.bits_Map.f 4000 l n = some ((mapP l n).1, (mapP l n).2) := by
  rw [PAll.bits_Map.f, isCount_f, Option.bind_some]
  have hj := map_j0 l n 4000 hl (by omega)
  unfold mapOK at hj
  by_cases h : countB n = true
  · rw [if_pos h, isSet_k l n 4000 hl (by omega), Option.bind_some]
    rw [h, Bool.true_and] at hj
    exact hj
  · rw [if_neg h]
    rw [Bool.eq_false_iff.2 h, Bool.false_and] at hj
    exact hj
theorem mapR_f (l : List Int) (n : Int) (hl : l.length ≤ 3000) : PAll.cabinetryref12_Map.f 4000 l n = some ((mapP l n).1, (mapP l n).2) := by
  rw [PAll.cabinetryref12_Map.f, isSetR_f l _ (by omega) (by omega), Option.bind_some]
  have hj := mapR_j0 l n 4000 hl (by omega)
  unfold mapOK at hj
  by_cases h : setB 300 l = true
  · rw [if_pos h, isBelowR_f l n hl h, Option.bind_some]
    exact hj
  · rw [if_neg h]
    have : (countB n && setB n l) = false := by
      rw [Bool.eq_false_iff]
      intro e
      obtain ⟨⟨_, h1⟩, h2⟩ := mapOK_iff (l := l) (n := n) e
      exact h (setB_300 h1 h2)
    rw [this] at hj
    exact hj
theorem Map_any (Ax : Option Addr) (cx : Nat) (lx : List Int) (n : Int) (w : World) (hrx : Kd.C (Kd.int .i64) w Ax lx.length lx) (hcx : lx.length ≤ cx) (hn : lx.length ≤ 3000) : Calls Try.prog 43 #[.slice Ax lx.length cx, .int .i64 n] w fun e w' => ∃ v : Value, e = .returned (.tuple #[v, .int .i64 (mapP lx n).2]) ∧ OwnB w' w.heap.size v (mapP lx n).1 ∧ Below w.heap.size w w' :=
  PAll.bits_Map.calls 4000 Ax cx lx n _ _ w hrx hcx (map_f lx n hn)
theorem MapR_any (Ax : Option Addr) (cx : Nat) (lx : List Int) (n : Int) (w : World) (hrx : Kd.C (Kd.int .i64) w Ax lx.length lx) (hcx : lx.length ≤ cx) (hn : lx.length ≤ 3000) : Calls Try.prog 44 #[.slice Ax lx.length cx, .int .i64 n] w fun e w' => ∃ v : Value, e = .returned (.tuple #[v, .int .i64 (mapP lx n).2]) ∧ OwnB w' w.heap.size v (mapP lx n).1 ∧ Below w.heap.size w w' :=
  PAll.cabinetryref12_Map.calls 4000 Ax cx lx n _ _ w hrx hcx (mapR_f lx n hn)
/-! ### Unmap of what Map makes -/
theorem bitAt_says {b : List Int} {m : Nat} {s : List Int} (h : Says b m s) (i : Nat) (hi : i < 8 * m) : bitAt b i = if ((i : Int) + 1) ∈ s then 1 else 0 := by
  obtain ⟨v, hv, hr, hb⟩ := h.2 (i / 8) (by omega)
  unfold bitAt
  rw [hr, byte_and ⟨v, hv⟩ ⟨i % 8, by omega⟩]
  simp only
  rw [hb (i % 8) (by omega), show 8 * (i / 8) + i % 8 + 1 = i + 1 by omega]
  push_cast
  split <;> rfl
theorem unmap_says {b : List Int} {m : Nat} {s : List Int} {n : Int} (h : Says b m s) (hs : ∀ x ∈ s, x ≤ n) : ∀ (d i : Nat) (out : List Int), i + d = 8 * m → unmapG b n d i out = (out ++ (fromTo 0 d ((i : Int) + 1)).filter (fun x => decide (x ∈ s)), 0)
  | 0, i, out, hi => by simp [unmapG, fromTo]
  | d + 1, i, out, hi => by
    rw [unmapG, bitAt_says h i (by omega), fromTo, List.filter_cons]
    by_cases e : ((i : Int) + 1) ∈ s
    · rw [if_pos e, if_neg (by decide), if_neg (by have := hs _ e; omega), if_pos (decide_eq_true e), unmap_says h hs d (i + 1) _ (by omega)]
      simp
    · rw [if_neg e, if_pos rfl, if_neg (by simpa using e), unmap_says h hs d (i + 1) _ (by omega)]
      simp
theorem unmap_map (l : List Int) (n : Int) (h : mapOK l n = true) : unmapP (mapP l n).1 n = (l, 0) := by
  obtain ⟨⟨h0, h1⟩, h2⟩ := mapOK_iff h
  obtain ⟨a1, a2, a3⟩ := map_args h
  have hc : countB n = true := by simp [countB, h0, h1]
  have hs := mapG_says (m := ((n + 7) / 8).toNat) l _ [] (says_nil _) (fun x hx => ⟨(a1 x hx).1, (a1 x hx).2.2⟩) a2 (by simp)
  rw [List.nil_append] at hs
  unfold unmapP mapP
  rw [if_pos hc, if_pos h]
  simp only
  rw [hs.1, if_pos (by omega), unmap_says hs (fun x hx => (set_mem h2 x hx).2) _ 0 [] (by omega), List.nil_append]
  congr 1
  refine sorted_ext ((fromTo_asc _ _ _).filter _) a2 fun z => ?_
  rw [List.mem_filter, fromTo_mem, decide_eq_true_eq]
  constructor
  · exact fun h => h.2
  · intro hz
    have := set_mem h2 z hz
    exact ⟨by omega, hz⟩
theorem mapP_len (l : List Int) (n : Int) : (mapP l n).1.length ≤ 3000 := by
  unfold mapP
  by_cases h : mapOK l n = true
  · rw [if_pos h]
    obtain ⟨⟨h0, h1⟩, h2⟩ := mapOK_iff h
    obtain ⟨a1, a2, a3⟩ := map_args h
    have hs := mapG_says (m := ((n + 7) / 8).toNat) l _ [] (says_nil _) (fun x hx => ⟨(a1 x hx).1, (a1 x hx).2.2⟩) a2 (by simp)
    have := hs.1
    simp only
    omega
  · rw [if_neg h]; simp
end Go.Proofs.Ytpbdlkbiiglkdaa

/- Unpack of what Pack makes: plain laws. -/
set_option linter.unusedVariables false
set_option linter.unusedSimpArgs false
namespace Go.Proofs.Ytpbdlkbiiglkdaa
open Go.RowKit Go.Proofs.YtpbdlkbiiglkdaaW.PrintWords Go.Proofs.YtpbdlkbiiglkdaaW.PrintLast Go.Proofs.YtpbdlkbiiglkdaaW.PrintMore Go.Proofs.Cab
theorem numB_small {g : Int} (h0 : 0 ≤ g) (h1 : g < 128) : numB g = [g] := by
  unfold numB
  rw [if_pos h1]
  congr 1
  omega
theorem numB_big {g : Int} (h0 : 128 ≤ g) (h1 : g < 16384) : numB g = [128 + g % 128, g / 128] := by
  unfold numB
  rw [if_neg (by omega), Int.tmod_eq_emod_of_nonneg (by omega), Int.tdiv_eq_ediv_of_nonneg (by omega), wrap_id (by omega) (by omega), wrap_id (by omega) (by omega)]
  congr 1
  · omega
  · congr 1
    omega
theorem takeP_numB {g : Int} (r : List Int) (h0 : 0 ≤ g) (h1 : g < 16384) : takeP (numB g ++ r) = (g, r, true) := by
  by_cases h : g < 128
  · rw [numB_small h0 h]
    simp [takeP, h]
  · rw [numB_big (by omega) h1]
    have h2 : ¬ 128 + g % 128 < 128 := by omega
    simp only [List.cons_append, List.nil_append, takeP, if_neg h2]
    congr 1
    omega
theorem numB_ne (g : Int) (r : List Int) : numB g ++ r ≠ [] := by
  unfold numB
  split <;> simp
/-- Stretches in order, from behind a number on, ending with one. -/
def okR : Int → List (Int × Int) → Int → Prop
  | a, [], q => q = a
  | a, p :: rs, q => a < p.1 ∧ p.1 ≤ p.2 ∧ p.2 ≤ 300 ∧ okR p.2 rs q
theorem okR_snoc : ∀ (rs : List (Int × Int)) (a q : Int) (p : Int × Int), okR a (rs ++ [p]) q ↔ ∃ m, okR a rs m ∧ m < p.1 ∧ p.1 ≤ p.2 ∧ p.2 ≤ 300 ∧ q = p.2
  | [], a, q, p => by simp [okR]
  | r :: rs, a, q, p => by
    simp only [List.cons_append, okR, okR_snoc rs]
    constructor
    · rintro ⟨h1, h2, h3, m, h4⟩
      exact ⟨m, ⟨h1, h2, h3, h4.1⟩, h4.2⟩
    · rintro ⟨m, ⟨h1, h2, h3, h4⟩, h5⟩
      exact ⟨h1, h2, h3, m, h4, h5⟩
def expand (rs : List (Int × Int)) : List Int := rs.flatMap fun p => fromTo 0 (p.2 - p.1 + 1).toNat p.1
theorem expand_snoc (rs : List (Int × Int)) (p : Int × Int) : expand (rs ++ [p]) = expand rs ++ fromTo 0 (p.2 - p.1 + 1).toNat p.1 := by
  simp [expand]
theorem one_fromTo (x : Int) : fromTo 0 (x - x + 1).toNat x = [x] := by
  rw [show (x - x + 1).toNat = 1 by omega]
  rfl
theorem foldR : ∀ (l : List Int) (out : List (Int × Int)) (q : Int), okR 0 out q → setFrom 300 q l = true → (out = [] → q = 0) → ∃ q', okR 0 (l.foldl addR out) q' ∧ expand (l.foldl addR out) = expand out ++ l
  | [], out, q, h, _, _ => ⟨q, h, by simp⟩
  | x :: l, out, q, h, hs, hq => by
    simp only [setFrom, Bool.and_eq_true, decide_eq_true_eq] at hs
    rcases List.eq_nil_or_concat out with rfl | ⟨rs, p, rfl⟩
    · obtain rfl := hq rfl
      obtain ⟨q', h1, h2⟩ := foldR l [(x, x)] x ⟨hs.1, Int.le_refl _, hs.2.1, rfl⟩ hs.2.2 (by simp)
      refine ⟨q', h1, h2.trans ?_⟩
      simp only [expand, List.flatMap_cons, List.flatMap_nil, one_fromTo]
      simp
    · rw [List.concat_eq_append] at h ⊢
      obtain ⟨m, h1, h2, h3, h4, rfl⟩ := (okR_snoc rs 0 q p).1 h
      rw [List.foldl_cons, addR_snoc]
      by_cases e : p.2 + 1 = x
      · rw [if_pos e]
        obtain ⟨q', g1, g2⟩ := foldR l (rs ++ [(p.1, x)]) x ((okR_snoc _ _ _ _).2 ⟨m, h1, h2, by simp only; omega, hs.2.1, rfl⟩) hs.2.2 (by simp)
        refine ⟨q', g1, g2.trans ?_⟩
        rw [expand_snoc, expand_snoc, List.append_assoc, List.append_assoc]
        congr 1
        subst e
        simp only
        rw [show (p.2 + 1 - p.1 + 1).toNat = (p.2 - p.1 + 1).toNat + 1 by omega, fromTo_snoc, show p.1 + ((p.2 - p.1 + 1).toNat : Int) = p.2 + 1 by omega, List.append_assoc]
        rfl
      · rw [if_neg e]
        obtain ⟨q', g1, g2⟩ := foldR l (rs ++ [p] ++ [(x, x)]) x ((okR_snoc _ _ _ _).2 ⟨p.2, h, hs.1, by simp only; omega, hs.2.1, rfl⟩) hs.2.2 (by simp)
        refine ⟨q', g1, g2.trans ?_⟩
        rw [expand_snoc, one_fromTo, List.append_assoc]
        rfl
theorem ranges_ok {l : List Int} (h : setB 300 l = true) : ∃ q, okR 0 (rangesF l) q ∧ expand (rangesF l) = l := by
  obtain ⟨q, h1, h2⟩ := foldR l [] 0 rfl h (fun _ => rfl)
  exact ⟨q, h1, h2⟩
theorem decF_pack : ∀ (rs : List (Int × Int)) (last q : Int) (out : List Int) (f : Nat), okR last rs q → 0 ≤ last → rs.length + 1 ≤ f → decF f (packG rs last) last out = some (out ++ expand rs)
  | [], last, q, out, f + 1, h, h0, hf => by
    rw [decF, if_pos (show packG [] last = [] from rfl)]
    simp [expand]
  | p :: rs, last, q, out, f + 1, h, h0, hf => by
    obtain ⟨h1, h2, h3, h4⟩ := h
    simp only [List.length_cons] at hf
    have t1 := takeP_numB (g := p.1 - last - 1) (numB (p.2 - p.1) ++ packG rs p.2) (by omega) (by omega)
    have t2 := takeP_numB (g := p.2 - p.1) (packG rs p.2) (by omega) (by omega)
    rw [packG, List.append_assoc, decF, if_neg (numB_ne _ _), t1]
    simp only
    rw [if_neg (by decide), t2]
    simp only
    rw [if_neg (by decide), if_neg (by omega), show last + (p.1 - last - 1) + 1 + (p.2 - p.1) = p.2 by omega, show last + (p.1 - last - 1) + 1 = p.1 by omega, decF_pack rs p.2 q _ f h4 (by omega) (by omega)]
    simp [expand]
theorem packG_len2 : ∀ (rs : List (Int × Int)) (last : Int), rs.length ≤ (packG rs last).length
  | [], _ => by simp
  | p :: rs, last => by
    have := packG_len2 rs p.2
    have h1 : ∀ g, 1 ≤ (numB g).length := fun g => by unfold numB; split <;> simp
    have := h1 (p.1 - last - 1)
    simp only [packG, List.length_append, List.length_cons]
    omega
theorem unpack_pack {l : List Int} (h : setB 300 l = true) : unpackO (packF l) = some l := by
  obtain ⟨q, h1, h2⟩ := ranges_ok h
  unfold unpackO
  have := decF_pack (rangesF l) 0 q [] ((packF l).length + 1) h1 (by omega) (by have := packG_len2 (rangesF l) 0; unfold packF; omega)
  rw [show decF ((packF l).length + 1) (packF l) 0 [] = some ([] ++ expand (rangesF l)) from this, h2, List.nil_append]
  simp
end Go.Proofs.Ytpbdlkbiiglkdaa

/- The law BitsRanges, walked. -/
set_option linter.unusedVariables false
set_option linter.unusedSimpArgs false
namespace Go.Proofs.Ytpbdlkbiiglkdaa
open Go.RowKit Go.Proofs.YtpbdlkbiiglkdaaW.PrintWords Go.Proofs.YtpbdlkbiiglkdaaW.PrintLast Go.Proofs.YtpbdlkbiiglkdaaW.PrintMore Go.Proofs.Cab
theorem rangesF_length (l : List Int) : (rangesF l).length ≤ l.length := by have := foldl_addR_length l []; simp at this; unfold rangesF; omega
theorem plain3 : Try.prog.plainKey 3 = true := by kernel_rfl
theorem cell3 : Try.prog.cellsOf 3 = 1 := by kernel_rfl
theorem eqPair (x y : Int) (W : World) : (Op.equalIn 10000 38 (.agg #[.int .i64 x, .int .i64 y]) (.agg #[.int .i64 x, .int .i64 y])).run Try.prog W = .ok true W := by
  obtain ⟨i, hi, _⟩ := Option.map_eq_some_iff.1 info3
  rw [run_equalIn_array (P := Try.prog) W 9999 #[.int .i64 x, .int .i64 y] #[.int .i64 x, .int .i64 y] Try.underlying38 hi]
  have p0 := run_part_plain (P := Try.prog) W plain3 (xs := #[.int .i64 x, .int .i64 y]) (off := 0) (v := .int .i64 x) rfl
  have p1 := run_part_plain (P := Try.prog) W plain3 (xs := #[.int .i64 x, .int .i64 y]) (off := 1) (v := .int .i64 y) rfl
  have q : ∀ z : Int, (Op.equalIn 9999 3 (.int .i64 z) (.int .i64 z)).run Try.prog W = .ok true W := fun z => by
    rw [run_equalIn_int W 9998 3 .i64 .i64 z z Try.underlying3]
    simp
  simp only [cell3, Nat.mul_one, List.range_succ, List.range_zero, List.nil_append, List.cons_append, Op.eqItems, Sem.run_bind, p0, q, Result.andThen_ok]
  simp [p1, q]
end Go.Proofs.Ytpbdlkbiiglkdaa

/- The law BitsMaps, walked. -/
set_option linter.unusedVariables false
set_option linter.unusedSimpArgs false
namespace Go.Proofs.Ytpbdlkbiiglkdaa
open Go.RowKit Go.Proofs.YtpbdlkbiiglkdaaW.PrintWords Go.Proofs.YtpbdlkbiiglkdaaW.PrintLast Go.Proofs.YtpbdlkbiiglkdaaW.PrintMore Go.Proofs.Cab
set_option maxHeartbeats 4000000 in
set_option maxRecDepth 100000 in
theorem BitsMaps_any (Ax : Option Addr) (cx : Nat) (lx : List Int) (n : Int) (w : World) (hrx : Kd.C (Kd.int .i64) w Ax lx.length lx) (hcx : lx.length ≤ cx) : Calls Try.prog 11 #[.slice Ax lx.length cx, .int .i64 n] w fun e w' => e = .returned (.bool true) ∧ Below w.heap.size w w' := by
  have HRx := Aside0.mk hrx
  have HCx := Aside0.mk hcx
  clear hrx hcx
  go_enter Try.func11, Try.ntmps11
  by_cases h0 : (lx.length : Int) > 3000
  · have h0b := decide_eq_true h0
    have HB0 : Aside0 (Below w.heap.size w w) := ⟨Below.refl _ _⟩
    go_wp2_with fail
    refine (known_any _).mono ?_
    rintro e w9 ⟨rfl, hb⟩
    have HB9 := Aside0.mk (below_step HB0.out hb)
    clear hb
    go_wp2_with fail
    go_ret
    exact ⟨rfl, HB9.out⟩
  · have h0b := decide_eq_false h0
    have HN : Aside0 (lx.length ≤ 3000) := ⟨by omega⟩
    go_wp2_with fail
    refine (Map_any Ax cx lx n _ HRx.out HCx.out HN.out).mono ?_
    rintro e w1 ⟨v, rfl, ho, hb⟩
    obtain ⟨A1, c1, rfl, hc1, hr1⟩ := ho.slice
    have HR1 := Aside0.mk hr1
    have HC1 := Aside0.mk hc1
    have HB1 := Aside0.mk hb
    clear ho hb hr1 hc1
    go_wp2_with fail
    refine (MapR_any Ax cx lx n _ (Kd.C_below HRx.out HB1.out) HCx.out HN.out).mono ?_
    rintro e w2 ⟨v, rfl, ho, hb⟩
    obtain ⟨A2, c2, rfl, hc2, hr2⟩ := ho.slice
    have HR2 := Aside0.mk hr2
    have HC2 := Aside0.mk hc2
    have HB12 := Aside0.mk hb
    have HB2 := Aside0.mk (below_step HB1.out hb)
    clear ho hb hr2 hc2
    go_wp2_with fail
    refine (Pack_any Ax cx lx _ (Kd.C_below HRx.out HB2.out) HCx.out).mono ?_
    rintro e w3 ⟨v, rfl, ho, hb⟩
    obtain ⟨A3, c3, rfl, hc3, hr3⟩ := ho.slice
    have HR3 := Aside0.mk hr3
    have HC3 := Aside0.mk hc3
    have HB23 := Aside0.mk hb
    have HB3 := Aside0.mk (below_step HB2.out hb)
    clear ho hb hr3 hc3
    go_wp2_with fail
    refine (PackR_any Ax cx lx _ (Kd.C_below HRx.out HB3.out) HCx.out HN.out).mono ?_
    rintro e w4 ⟨v, rfl, ho, hb⟩
    obtain ⟨A4, c4, rfl, hc4, hr4⟩ := ho.slice
    have HR4 := Aside0.mk hr4
    have HC4 := Aside0.mk hc4
    have HB34 := Aside0.mk hb
    have HB4 := Aside0.mk (below_step HB3.out hb)
    have HB14 := Aside0.mk (below_step (below_step HB12.out HB23.out) HB34.out)
    have hcv1 : (convert 53 9 (.slice A1 (mapP lx n).1.length c1)).run Try.prog w4 = .ok (.string (strOfNums (mapP lx n).1)) w4 := Kd.C_string Try.underlying53 Try.underlying5 Try.underlying9 (Kd.C_below HR1.out HB14.out)
    have hcv2 : (convert 53 9 (.slice A2 (mapP lx n).1.length c2)).run Try.prog w4 = .ok (.string (strOfNums (mapP lx n).1)) w4 := Kd.C_string Try.underlying53 Try.underlying5 Try.underlying9 (Kd.C_below HR2.out (below_step HB23.out HB34.out))
    have hcv3 : (convert 53 9 (.slice A3 (packL lx).length c3)).run Try.prog w4 = .ok (.string (strOfNums (packL lx))) w4 := Kd.C_string Try.underlying53 Try.underlying5 Try.underlying9 (Kd.C_below HR3.out HB34.out)
    have hcv4 : (convert 53 9 (.slice A4 (packL lx).length c4)).run Try.prog w4 = .ok (.string (strOfNums (packL lx))) w4 := Kd.C_string Try.underlying53 Try.underlying5 Try.underlying9 HR4.out
    clear ho hb hr4 hc4
    obtain ⟨s1, hs1⟩ : ∃ s, strOfNums (mapP lx n).1 = s := ⟨_, rfl⟩
    obtain ⟨s2, hs2⟩ : ∃ s, strOfNums (packL lx) = s := ⟨_, rfl⟩
    rw [hs1] at hcv1 hcv2
    rw [hs2] at hcv3 hcv4
    clear hs1 hs2
    cases hm : mapOK lx n
    · have hez : ((mapP lx n).2 == 0) = false := by unfold mapP; rw [if_neg (by rw [hm]; decide)]; rfl
      have hez2 : ((mapP lx n).2 != 0) = true := by unfold mapP; rw [if_neg (by rw [hm]; decide)]; rfl
      clear hm
      generalize (mapP lx n).2 = me at *
      cases hs : setB 300 lx
      · have hkz : (knownE lx == 0) = false := by rw [knownE, if_neg (by rw [hs]; decide)]; rfl
        have hkz2 : (knownE lx != 0) = true := by rw [knownE, if_neg (by rw [hs]; decide)]; rfl
        have HS := Aside0.mk hs
        clear hs
        generalize knownE lx = ke at *
        go_wp2_with fail
        refine (known_any _).mono ?_
        rintro e w9 ⟨rfl, hb⟩
        have HB9 := Aside0.mk (below_step HB4.out hb)
        clear hb
        go_wp2_with fail
        go_ret
        exact ⟨rfl, HB9.out⟩
      · have hk0 : knownE lx = 0 := if_pos hs
        have HS := Aside0.mk hs
        clear hs
        have HPL : Aside0 (packL lx = packF lx) := ⟨if_pos HS.out⟩
        have HLEN : Aside0 ((packL lx).length ≤ 3000) := ⟨by
          have h1 := packG_length (rangesF lx) 0
          have h2 := rangesF_length lx
          have h3 := setB_length HS.out
          rw [HPL.out]
          unfold packF
          omega⟩
        have HU : Aside0 (unpackE (packL lx) = 0 ∧ unpackL (packL lx) = lx) := ⟨by
          rw [HPL.out, unpackE, unpackL, unpack_pack HS.out]
          exact ⟨rfl, rfl⟩⟩
        have HPB : Aside0 (∀ x ∈ packL lx, 0 ≤ x ∧ x ≤ 255) := ⟨by rw [HPL.out]; exact packG_byte _ _⟩
        rw [hk0]
        clear hk0
        go_wp2_with fail
        refine (Unpack_any A3 c3 (packL lx) _ (Kd.C_below HR3.out HB34.out) HC3.out HPB.out HLEN.out).mono ?_
        rintro e w7 ⟨v, rfl, ho, hb⟩
        rw [HU.out.2] at ho
        rw [HU.out.1]
        obtain ⟨A7, c7, rfl, hc7, hr7⟩ := ho.slice
        have HR7 := Aside0.mk hr7
        have HC7 := Aside0.mk hc7
        have HB7 := Aside0.mk (below_step HB4.out hb)
        clear ho hb hr7 hc7
        go_wp2_with fail
        refine (SameInts_any A7 c7 lx Ax cx lx _ HR7.out HC7.out (Kd.C_below HRx.out HB7.out) HCx.out).mono ?_
        rintro e w8 ⟨rfl, hb⟩
        rw [decide_eq_true (rfl : lx = lx)]
        have HB8 := Aside0.mk (below_step HB7.out hb)
        clear hb
        go_wp2_with fail
        refine (known_any _).mono ?_
        rintro e w9 ⟨rfl, hb⟩
        have HB9 := Aside0.mk (below_step HB8.out hb)
        clear hb
        go_wp2_with fail
        go_ret
        exact ⟨rfl, HB9.out⟩
    · have hez : (mapP lx n).2 = 0 := by unfold mapP; rw [if_pos hm]
      have HUM := Aside0.mk (unmap_map lx n hm)
      have HML := Aside0.mk (mapP_len lx n)
      rw [hez]
      clear hez hm
      go_wp2_with fail
      clear hcv1 hcv2 hcv3 hcv4
      refine (Unmap_any A1 c1 (mapP lx n).1 n _ (Kd.C_below HR1.out HB14.out) HC1.out HML.out).mono ?_
      rintro e w5 ⟨v, rfl, ho, hb⟩
      rw [HUM.out] at ho ⊢
      simp only at ho ⊢
      obtain ⟨A5, c5, rfl, hc5, hr5⟩ := ho.slice
      have HR5 := Aside0.mk hr5
      have HC5 := Aside0.mk hc5
      have HB45 := Aside0.mk hb
      have HB5 := Aside0.mk (below_step HB4.out hb)
      clear ho hb hr5 hc5
      go_wp2_with fail
      refine (SameInts_any A5 c5 lx Ax cx lx _ HR5.out HC5.out (Kd.C_below HRx.out HB5.out) HCx.out).mono ?_
      rintro e w6 ⟨rfl, hb⟩
      rw [decide_eq_true (rfl : lx = lx)]
      have HB46 := Aside0.mk (below_step HB45.out hb)
      have HB6 := Aside0.mk (below_step HB5.out hb)
      clear hb
      cases hs : setB 300 lx
      · have hkz : (knownE lx == 0) = false := by rw [knownE, if_neg (by rw [hs]; decide)]; rfl
        have hkz2 : (knownE lx != 0) = true := by rw [knownE, if_neg (by rw [hs]; decide)]; rfl
        have HS := Aside0.mk hs
        clear hs
        generalize knownE lx = ke at *
        go_wp2_with fail
        refine (known_any _).mono ?_
        rintro e w9 ⟨rfl, hb⟩
        have HB9 := Aside0.mk (below_step HB6.out hb)
        clear hb
        go_wp2_with fail
        go_ret
        exact ⟨rfl, HB9.out⟩
      · have hk0 : knownE lx = 0 := if_pos hs
        have HS := Aside0.mk hs
        clear hs
        have HPL : Aside0 (packL lx = packF lx) := ⟨if_pos HS.out⟩
        have HLEN : Aside0 ((packL lx).length ≤ 3000) := ⟨by
          have h1 := packG_length (rangesF lx) 0
          have h2 := rangesF_length lx
          have h3 := setB_length HS.out
          rw [HPL.out]
          unfold packF
          omega⟩
        have HU : Aside0 (unpackE (packL lx) = 0 ∧ unpackL (packL lx) = lx) := ⟨by
          rw [HPL.out, unpackE, unpackL, unpack_pack HS.out]
          exact ⟨rfl, rfl⟩⟩
        have HPB : Aside0 (∀ x ∈ packL lx, 0 ≤ x ∧ x ≤ 255) := ⟨by rw [HPL.out]; exact packG_byte _ _⟩
        rw [hk0]
        clear hk0
        go_wp2_with fail
        refine (Unpack_any A3 c3 (packL lx) _ (Kd.C_below HR3.out (below_step HB34.out HB46.out)) HC3.out HPB.out HLEN.out).mono ?_
        rintro e w7 ⟨v, rfl, ho, hb⟩
        rw [HU.out.2] at ho
        rw [HU.out.1]
        obtain ⟨A7, c7, rfl, hc7, hr7⟩ := ho.slice
        have HR7 := Aside0.mk hr7
        have HC7 := Aside0.mk hc7
        have HB7 := Aside0.mk (below_step HB6.out hb)
        clear ho hb hr7 hc7
        go_wp2_with fail
        refine (SameInts_any A7 c7 lx Ax cx lx _ HR7.out HC7.out (Kd.C_below HRx.out HB7.out) HCx.out).mono ?_
        rintro e w8 ⟨rfl, hb⟩
        rw [decide_eq_true (rfl : lx = lx)]
        have HB8 := Aside0.mk (below_step HB7.out hb)
        clear hb
        go_wp2_with fail
        refine (known_any _).mono ?_
        rintro e w9 ⟨rfl, hb⟩
        have HB9 := Aside0.mk (below_step HB8.out hb)
        clear hb
        go_wp2_with fail
        go_ret
        exact ⟨rfl, HB9.out⟩
end Go.Proofs.Ytpbdlkbiiglkdaa

/- THE LAW BitsMaps: for every input it returns true, and its arguments read afterwards as they read before. No condition. (The frame is the kit's printed row, turned to a walk of my own.) -/
set_option linter.unusedVariables false
namespace Go.Proofs.Ytpbdlkbiiglkdaa.bitsMaps
open Go.ChangeShapes Go.WideShapes Go.ChangeAt Go.RowKit Go.Proofs.Ytpbdlkbiiglkdaa Go.Proofs.YtpbdlkbiiglkdaaW.PrintWords

set_option maxRecDepth 100000 in
theorem lifted (os : Os) (started : os.Started) (H : Type) (enc : TypeId × Value → H) :
    ReturnsInHanded {} Try.checked os 11 .any (Rows.bitsMapsSpec.pre6 enc Try.prog Try.f11 Rows.bitsMapsRow.domain false) (Rows.bitsMapsSpec.post enc Try.prog Try.f11 false true false false) := by
  refine returnsInHanded_of_change (C := Try.checked) own started (by kernel_rfl) Try.func11
    (ChangeSpec.witness6 (enc := enc) (C := Try.checked) false ⟨#[], #[.slice none 0 0, .int .i64 0], []⟩ 8 (by kernel_rfl) (by kernel_rfl) (by kernel_rfl) (by kernel_rfl)) ?_
  intro W base args ds gs before hval0 hW hcnd _
  have hval : ∀ (j : Nat) t v, Try.f11.params[j]? = some t → args[j]? = some v → Value.okWide Try.prog W .any base t v := hval0
  have hW' := hW
  obtain ⟨p, q, hA0, hV, rfl, hfz, hnd⟩ := hW
  have hA : DataW.TrodAll enc Try.prog W 0 (fun _ => true) true Try.f11.params.toList args.toList ds p := hA0
  rw [Try.params11] at hA hval
  obtain ⟨v0, vs0, d0, ds0, p0, q0, hargs, rfl, rfl, h0, r0⟩ := trodAll_cons hA
  obtain ⟨v1, vs1, d1, ds1, p1, q1, rfl, rfl, rfl, h1, r1⟩ := trodAll_cons r0
  obtain ⟨rfl, rfl, rfl⟩ := trodAll_nil r1
  obtain rfl : args = #[v0, v1] := by cases args; simp_all
  obtain ⟨rfl, rfl⟩ := trodVars_none hV
  have k0 := h0
  have lt0 := lt_trod k0
  obtain ⟨a0, c0, l0, rfl, w0, _, z0, y0⟩ := came_arg (k := .i64) Try.underlying22 Try.underlying3 (by kernel_rfl) (hval 0 22 v0 rfl rfl) h0
  have k1 := h1
  have lt1 := lt_trod k1
  obtain ⟨a1, rfl, rfl, rfl, w1⟩ := open_int Try.underlying3 (hval 1 3 v1 rfl rfl) h1
  clear hA0 hval0
  refine (BitsMaps_any a0 c0 l0 a1 W z0 w0).mono fun e W' ⟨he, bel⟩ => ?_
  subst he
  exact ⟨_, rfl, _, _, _, [], _, [], hW', trodAll_mk1 (shut_bool Try.underlying4 _), (trodAll_cons_mk (Below.trod laidOut (by kernel_rfl) (of_decide_eq_true (by kernel_rfl)) k0 bel lt0) (trodAll_cons_mk (shut_int Try.underlying3 w1) trodAll_mk0)), rfl, bel.frame _, fun h => by cases h⟩
theorem over : Rows.bitsMapsRow.holds Try.pinned (OpenSpec.ofChange Rows.bitsMapsSpec) :=
  OpenClaim.holds_of_wide 11 Try.f11 rfl rfl rfl rfl rfl rfl rfl ⟨rfl, rfl, rfl, rfl, rfl⟩ rfl rfl rfl rfl rfl (by kernel_rfl) Try.func11 (by kernel_rfl)
    (of_decide_eq_true (by kernel_rfl)) (by unfold Func.isWrapper; first | (rw [if_pos (by decide +kernel)]; kernel_rfl) | (rw [if_neg (by decide +kernel)]; exact ⟨rfl, rfl⟩))
    (fun os started H enc _ => lifted os started H enc)
end Go.Proofs.Ytpbdlkbiiglkdaa.bitsMaps
namespace Go.Proofs.Ytpbdlkbiiglkdaa
theorem bitsMaps_holds : Rows.BitsMapsSaid := bitsMaps.over
#print axioms bitsMaps_holds
end Go.Proofs.Ytpbdlkbiiglkdaa

/- THE LAW BitsRanges: for every input it returns true, and its arguments read afterwards as they read before. No condition. (The frame is the kit's printed row, turned to a walk of my own.) -/
import Derived.Test.YtpbdlkbiiglkdaaMRanges0
import Derived.ChangeKeysEq
import Derived.BigQuiet

/- What the reference answers, in plain Lean: lists that are sets, in either form. -/
set_option linter.unusedVariables false
set_option linter.unusedSimpArgs false
namespace Go.Proofs.Ytpbdlkbiiglkdaa
open Go.RowKit Go.Proofs.YtpbdlkbiiglkdaaW.PrintWords Go.Proofs.YtpbdlkbiiglkdaaW.PrintLast Go.Proofs.YtpbdlkbiiglkdaaW.PrintMore Go.Proofs.Cab

theorem isSetR_l0 (l : List Int) (hl : l.length ≤ 1000000) : ∀ (d i : Nat) (k : Nat) (p : Int), l.length - i = d → i ≤ l.length → d < k → 0 ≤ p → (i = 0 → p = 0) → (∀ (h : 0 < i) (h2 : i - 1 < l.length), p = l[i - 1]) →
    PAll.cabinetryref12_IsSet.l0 k l (i : Int) = some (setFrom 300 p (l.drop i))
  | 0, i, k + 1, p, hd, hi, hk, h0, hz, hp => by
    obtain rfl : i = l.length := by omega
    rw [PAll.cabinetryref12_IsSet.l0, if_neg (by omega), List.drop_length]
    rfl
  | d + 1, i, k + 1, p, hd, hi, hk, h0, hz, hp => by
    have hlt : i < l.length := by omega
    rw [PAll.cabinetryref12_IsSet.l0, if_pos (by omega), if_pos (by omega), rd_at l i hlt, drop_at l i hlt]
    obtain ⟨x, hx⟩ : ∃ x, l[i] = x := ⟨_, rfl⟩
    have ih := fun (q : Int) (h1 : 0 ≤ q) (h2 : q = x) => isSetR_l0 l hl d (i + 1) k q (by omega) (by omega) (by omega) h1 (by omega) (fun _ _ => by simpa [hx] using h2)
    rw [hx]
    have hw : wrap64 ((i : Int) + 1) = ((i + 1 : Nat) : Int) := by rw [wrap_id (by omega) (by omega)]; omega
    simp only [setFrom]
    by_cases h1 : x < 1
    · rw [if_pos h1]
      rw [decide_eq_false (by omega : ¬ p < x)]
      rfl
    · rw [if_neg h1]
      by_cases h2 : x > 300
      · rw [if_pos h2, decide_eq_false (by omega : ¬ x ≤ 300)]
        simp
      · rw [if_neg h2, decide_eq_true (by omega : x ≤ 300), hw]
        by_cases h3 : i = 0
        · rw [if_neg (by omega), ih x (by omega) rfl]
          obtain rfl := hz h3
          rw [decide_eq_true (by omega : (0 : Int) < x)]
          simp
        · have hw2 : wrap64 ((i : Int) - 1) = ((i - 1 : Nat) : Int) := by rw [wrap_id (by omega) (by omega)]; omega
          rw [if_pos (by omega), hw2, if_pos (by omega), if_pos (by omega), rd_at l (i - 1) (by omega), ← hp (by omega) (by omega)]
          by_cases h4 : x ≤ p
          · rw [if_pos h4, decide_eq_false (by omega : ¬ p < x)]
            rfl
          · rw [if_neg h4, decide_eq_true (by omega : p < x), ih x (by omega) rfl]
            simp
theorem isSetR_f (l : List Int) (k : Nat) (hl : l.length ≤ 1000000) (hk : l.length < k) : PAll.cabinetryref12_IsSet.f k l = some (setB 300 l) := by
  have := isSetR_l0 l hl l.length 0 k 0 (by omega) (by omega) hk (by omega) (fun _ => rfl) (fun h => absurd h (by omega))
  simpa [PAll.cabinetryref12_IsSet.f, setB] using this

theorem hasR_l0 (l : List Int) (n : Int) (hl : l.length ≤ 1000000) : ∀ (d i : Nat) (k : Nat), l.length - i = d → i ≤ l.length → d < k →
    PAll.cabinetryref12_Has.l0 k l n (i : Int) = some (decide (n ∈ l.drop i))
  | 0, i, k + 1, hd, hi, hk => by
    obtain rfl : i = l.length := by omega
    rw [PAll.cabinetryref12_Has.l0, if_neg (by omega), List.drop_length]
    simp
  | d + 1, i, k + 1, hd, hi, hk => by
    have hlt : i < l.length := by omega
    rw [PAll.cabinetryref12_Has.l0, if_pos (by omega), if_pos (by omega), rd_at l i hlt, drop_at l i hlt]
    by_cases h : l[i] = n
    · rw [if_pos h]
      exact congrArg some (decide_eq_true (by rw [h]; exact List.mem_cons_self)).symm
    · rw [if_neg h, wrap_id (by omega) (by omega), show (i : Int) + 1 = ((i + 1 : Nat) : Int) by omega, hasR_l0 l n hl d (i + 1) k (by omega) (by omega) (by omega)]
      exact congrArg some (decide_eq_decide.2 ⟨fun e => List.mem_cons_of_mem _ e, fun e => (List.mem_cons.1 e).resolve_left fun h' => h h'.symm⟩)
theorem hasR_f (l : List Int) (n : Int) (k : Nat) (hl : l.length ≤ 1000000) (hk : l.length < k) : PAll.cabinetryref12_Has.f k l n = some (decide (n ∈ l)) := by
  have := hasR_l0 l n hl l.length 0 k (by omega) (by omega) hk
  simpa [PAll.cabinetryref12_Has.f] using this

/-- Two ascending lists with the same members are one. -/
theorem sorted_ext : ∀ {l m : List Int}, l.Pairwise (· < ·) → m.Pairwise (· < ·) → (∀ z, z ∈ l ↔ z ∈ m) → l = m
  | [], [], _, _, _ => rfl
  | [], y :: m, _, _, h => absurd ((h y).2 List.mem_cons_self) (by simp)
  | x :: l, [], _, _, h => absurd ((h x).1 List.mem_cons_self) (by simp)
  | x :: l, y :: m, hl, hm, h => by
    have hl1 := (List.pairwise_cons.1 hl).1
    have hm1 := (List.pairwise_cons.1 hm).1
    have hxy : x = y := by
      rcases List.mem_cons.1 ((h x).1 List.mem_cons_self) with e | e
      · exact e
      · rcases List.mem_cons.1 ((h y).2 List.mem_cons_self) with e' | e'
        · exact e'.symm
        · have a := hm1 x e
          have b := hl1 y e'
          omega
    subst hxy
    rw [sorted_ext (List.pairwise_cons.1 hl).2 (List.pairwise_cons.1 hm).2 fun z => ?_]
    constructor
    · intro hz
      rcases List.mem_cons.1 ((h z).1 (List.mem_cons_of_mem _ hz)) with e | e
      · have := hl1 z hz; omega
      · exact e
    · intro hz
      rcases List.mem_cons.1 ((h z).2 (List.mem_cons_of_mem _ hz)) with e | e
      · have := hm1 z hz; omega
      · exact e

/-- The members of what is kept of two ascending lists; and it ascends. -/
theorem joinF_spec (f : Bool → Bool → Bool) (hf : f false false = false) : ∀ (n : Nat) (xs ys : List Int), xs.length + ys.length = n → xs.Pairwise (· < ·) → ys.Pairwise (· < ·) →
    (∀ z, z ∈ joinF f xs ys ↔ f (decide (z ∈ xs)) (decide (z ∈ ys)) = true) ∧ (joinF f xs ys).Pairwise (· < ·) := by
  have one : ∀ (b : Bool) (x z : Int), z ∈ (if b then [x] else []) ↔ b = true ∧ z = x := fun b x z => by cases b <;> simp
  have step : ∀ (b : Bool) (x : Int) (l : List Int), l.Pairwise (· < ·) → (∀ z ∈ l, x < z) → ((if b then [x] else []) ++ l).Pairwise (· < ·) := fun b x l h h2 => by
    cases b
    · simpa using h
    · simpa using ⟨h2, h⟩
  intro n
  induction n using Nat.strongRecOn with
  | _ n ih =>
    intro xs ys hn hx hy
    cases xs with
    | nil =>
      cases ys with
      | nil => exact ⟨fun z => by simp [joinF, hf], by simp [joinF]⟩
      | cons y ys =>
        obtain ⟨hy1, hy2⟩ := List.pairwise_cons.1 hy
        obtain ⟨i1, i2⟩ := ih (n - 1) (by simp at hn; omega) [] ys (by simp at hn ⊢; omega) hx hy2
        simp only [joinF]
        refine ⟨fun z => ?_, step _ _ _ i2 fun z hz => ?_⟩
        · rw [List.mem_append, one, i1]
          by_cases e : z = y
          · subst e
            have : z ∉ ys := fun h => by have := hy1 z h; omega
            simp [this, hf]
          · simp [e]
        · rcases joinF_mem f _ [] ys rfl z hz with h | h
          · cases h
          · exact hy1 z h
    | cons x xs =>
      obtain ⟨hx1, hx2⟩ := List.pairwise_cons.1 hx
      cases ys with
      | nil =>
        obtain ⟨i1, i2⟩ := ih (n - 1) (by simp at hn; omega) xs [] (by simp at hn ⊢; omega) hx2 hy
        simp only [joinF]
        refine ⟨fun z => ?_, step _ _ _ i2 fun z hz => ?_⟩
        · rw [List.mem_append, one, i1]
          by_cases e : z = x
          · subst e
            have : z ∉ xs := fun h => by have := hx1 z h; omega
            simp [this, hf]
          · simp [e]
        · rcases joinF_mem f _ xs [] rfl z hz with h | h
          · exact hx1 z h
          · cases h
      | cons y ys =>
        obtain ⟨hy1, hy2⟩ := List.pairwise_cons.1 hy
        rw [joinF]
        by_cases h1 : x < y
        · rw [if_pos h1]
          obtain ⟨i1, i2⟩ := ih (n - 1) (by simp at hn; omega) xs (y :: ys) (by simp at hn ⊢; omega) hx2 hy
          refine ⟨fun z => ?_, step _ _ _ i2 fun z hz => ?_⟩
          · rw [List.mem_append, one, i1]
            by_cases e : z = x
            · subst e
              have a : z ∉ xs := fun h => by have := hx1 z h; omega
              have b : z ∉ y :: ys := fun h => by
                rcases List.mem_cons.1 h with h | h
                · omega
                · have := hy1 z h; omega
              simp [a, b, hf]
            · simp [e]
          · rcases joinF_mem f _ xs (y :: ys) rfl z hz with h | h
            · exact hx1 z h
            · rcases List.mem_cons.1 h with h | h
              · omega
              · have := hy1 z h; omega
        · rw [if_neg h1]
          by_cases h2 : y < x
          · rw [if_pos h2]
            obtain ⟨i1, i2⟩ := ih (n - 1) (by simp at hn; omega) (x :: xs) ys (by simp at hn ⊢; omega) hx hy2
            refine ⟨fun z => ?_, step _ _ _ i2 fun z hz => ?_⟩
            · rw [List.mem_append, one, i1]
              by_cases e : z = y
              · subst e
                have a : z ∉ ys := fun h => by have := hy1 z h; omega
                have b : z ∉ x :: xs := fun h => by
                  rcases List.mem_cons.1 h with h | h
                  · omega
                  · have := hx1 z h; omega
                simp [a, b, hf]
              · simp [e]
            · rcases joinF_mem f _ (x :: xs) ys rfl z hz with h | h
              · rcases List.mem_cons.1 h with h | h
                · omega
                · have := hx1 z h; omega
              · exact hy1 z h
          · rw [if_neg h2]
            obtain rfl : x = y := by omega
            obtain ⟨i1, i2⟩ := ih (n - 2) (by simp at hn; omega) xs ys (by simp at hn ⊢; omega) hx2 hy2
            refine ⟨fun z => ?_, step _ _ _ i2 fun z hz => ?_⟩
            · rw [List.mem_append, one, i1]
              by_cases e : z = x
              · subst e
                have a : z ∉ ys := fun h => by have := hy1 z h; omega
                have b : z ∉ xs := fun h => by have := hx1 z h; omega
                simp [a, b, hf]
              · simp [e]
            · rcases joinF_mem f _ xs ys rfl z hz with h | h
              · exact hx1 z h
              · exact hy1 z h
theorem set_asc {l : List Int} {n : Int} (h : setB n l = true) : l.Pairwise (· < ·) := setFrom_pairwise h
theorem set_mem {l : List Int} {n : Int} (h : setB n l = true) : ∀ x ∈ l, 1 ≤ x ∧ x ≤ n := fun x hx => by
  have := setFrom_mem h x hx
  omega
theorem filter_asc {l : List Int} (p : Int → Bool) (h : l.Pairwise (· < ·)) : (l.filter p).Pairwise (· < ·) := h.filter p
theorem lessF_filter {l g : List Int} (hl : l.Pairwise (· < ·)) (hg : g.Pairwise (· < ·)) : lessF l g = l.filter fun x => !decide (x ∈ g) := by
  obtain ⟨h1, h2⟩ := joinF_spec (fun a b => a && !b) rfl _ l g rfl hl hg
  refine sorted_ext h2 (filter_asc _ hl) fun z => ?_
  refine (h1 z).trans ?_
  rw [List.mem_filter]
  simp
theorem bothF_filter {l g : List Int} (hl : l.Pairwise (· < ·)) (hg : g.Pairwise (· < ·)) : bothF l g = l.filter fun x => decide (x ∈ g) := by
  obtain ⟨h1, h2⟩ := joinF_spec (fun a b => a && b) rfl _ l g rfl hl hg
  refine sorted_ext h2 (filter_asc _ hl) fun z => ?_
  refine (h1 z).trans ?_
  rw [List.mem_filter]
  simp
theorem upTo_mem (n x : Int) : x ∈ upTo n ↔ 1 ≤ x ∧ x ≤ n := by
  unfold upTo
  rw [List.mem_map]
  constructor
  · rintro ⟨k, hk, rfl⟩
    rw [List.mem_range] at hk
    omega
  · rintro ⟨h1, h2⟩
    exact ⟨(x - 1).toNat, List.mem_range.2 (by omega), by omega⟩
theorem upTo_asc (n : Int) : (upTo n).Pairwise (· < ·) := by
  unfold upTo
  rw [List.pairwise_map]
  exact List.pairwise_lt_range.imp fun h => by omega
theorem anyF_filter {l g : List Int} (hl : setB 300 l = true) (hg : setB 300 g = true) : anyF l g = (upTo 300).filter fun x => decide (x ∈ l) || decide (x ∈ g) := by
  obtain ⟨h1, h2⟩ := joinF_spec (fun a b => a || b) rfl _ l g rfl (set_asc hl) (set_asc hg)
  refine sorted_ext h2 (filter_asc _ (upTo_asc _)) fun z => ?_
  refine (h1 z).trans ?_
  rw [List.mem_filter, upTo_mem]
  constructor
  · intro h
    refine ⟨?_, h⟩
    simp at h
    rcases h with h | h
    · exact set_mem hl z h
    · exact set_mem hg z h
  · exact fun h => h.2
end Go.Proofs.Ytpbdlkbiiglkdaa

/- The reference's Shift, in plain Lean. -/
set_option linter.unusedVariables false
set_option linter.unusedSimpArgs false
namespace Go.Proofs.Ytpbdlkbiiglkdaa
open Go.RowKit Go.Proofs.YtpbdlkbiiglkdaaW.PrintWords Go.Proofs.YtpbdlkbiiglkdaaW.PrintLast Go.Proofs.YtpbdlkbiiglkdaaW.PrintMore Go.Proofs.Cab

theorem below_cons (y : Int) (g : List Int) (x : Int) : (below (y :: g) x : Int) = (if y < x then 1 else 0) + (below g x : Int) := by
  unfold below
  rw [List.filter_cons]
  by_cases h : y < x
  · rw [if_pos (decide_eq_true h), if_pos h, List.length_cons]; omega
  · rw [if_neg (by simpa using h), if_neg h]; omega
theorem below_le (g : List Int) (x : Int) : below g x ≤ g.length := List.length_filter_le _ _
def shiftG (l g : List Int) : List Int := (l.filter fun x => !decide (x ∈ g)).map fun x => x - (below g x : Int)
theorem shiftG_length (l g : List Int) : (shiftG l g).length ≤ l.length := by
  unfold shiftG
  rw [List.length_map]
  exact List.length_filter_le _ _

theorem shiftR_l1 (l g out : List Int) (hl : l.length ≤ 10000) (hg : g.length ≤ 10000) (ho : out.length ≤ 10000) (i : Nat) (hi : i < l.length) : ∀ (d j k : Nat) (n : Int), g.length - j = d → j ≤ g.length → -1000000 + d ≤ n → n ≤ 1000000 →
    PAll.cabinetryref12_Shift.l1 (k + d + 1) l g out (i : Int) n (j : Int) = PAll.cabinetryref12_Shift.l0 k l g (out ++ [n - (below (g.drop j) l[i] : Int)]) ((i + 1 : Nat) : Int)
  | 0, j, k, n, hd, hj, h1, h2 => by
    obtain rfl : j = g.length := by omega
    rw [PAll.cabinetryref12_Shift.l1, if_neg (by omega), if_pos (by omega), wrap_id (by omega) (by omega), List.drop_length]
    simp [below]
  | d + 1, j, k, n, hd, hj, h1, h2 => by
    have hlt : j < g.length := by omega
    rw [show k + (d + 1) + 1 = (k + d + 1) + 1 by omega, PAll.cabinetryref12_Shift.l1, if_pos (by omega), if_pos (by omega), if_pos (by omega), if_pos (by omega), rd_at g j hlt, rd_at l i hi, drop_at g j hlt, below_cons]
    have hw : wrap64 ((j : Int) + 1) = ((j + 1 : Nat) : Int) := by rw [wrap_id (by omega) (by omega)]; omega
    rw [hw]
    by_cases h : g[j] < l[i]
    · rw [if_pos h, if_pos h, wrap_id (by omega) (by omega), shiftR_l1 l g out hl hg ho i hi d (j + 1) k (n - 1) (by omega) (by omega) (by omega) (by omega)]
      have e : ∀ X : Int, n - (1 + X) = n - 1 - X := fun X => by omega
      rw [e]
    · rw [if_neg h, if_neg h, shiftR_l1 l g out hl hg ho i hi d (j + 1) k n (by omega) (by omega) (by omega) (by omega), Int.zero_add]
theorem shiftR_l0 (l g : List Int) (hl : l.length ≤ 3000) (hg : g.length ≤ 3000) (hv : ∀ x ∈ l, -10000 ≤ x ∧ x ≤ 10000) : ∀ (d i k : Nat) (out : List Int), l.length - i = d → i ≤ l.length → out.length ≤ i → d * (g.length + 2) + g.length + 2 ≤ k →
    PAll.cabinetryref12_Shift.l0 k l g out (i : Int) = some (out ++ shiftG (l.drop i) g, 0)
  | 0, i, k + 1, out, hd, hi, ho, hk => by
    obtain rfl : i = l.length := by omega
    rw [PAll.cabinetryref12_Shift.l0, if_neg (by omega), List.drop_length]
    simp [shiftG]
  | d + 1, i, k + 1, out, hd, hi, ho, hk => by
    have hlt : i < l.length := by omega
    rw [Nat.succ_mul] at hk
    have hw : wrap64 ((i : Int) + 1) = ((i + 1 : Nat) : Int) := by rw [wrap_id (by omega) (by omega)]; omega
    rw [PAll.cabinetryref12_Shift.l0, if_pos (by omega), if_pos (by omega), rd_at l i hlt, drop_at l i hlt, hasR_f _ _ _ (by omega) (by omega), Option.bind_some]
    have hvi := hv l[i] (List.getElem_mem hlt)
    by_cases h : l[i] ∈ g
    · rw [if_pos (by simpa using h), hw, shiftR_l0 l g hl hg hv d (i + 1) k out (by omega) (by omega) (by omega) (by omega)]
      simp only [shiftG]
      rw [List.filter_cons, if_neg (by simpa using h)]
    · rw [if_neg (by simpa using h), show k = (k - g.length - 1) + g.length + 1 by omega]
      have h0 := shiftR_l1 l g out (by omega) (by omega) (by omega) i hlt g.length 0 (k - g.length - 1) l[i] (by omega) (by omega) (by omega) (by omega)
      rw [show ((0 : Nat) : Int) = 0 from rfl] at h0
      rw [h0, shiftR_l0 l g hl hg hv d (i + 1) (k - g.length - 1) _ (by omega) (by omega) (by rw [List.length_append, List.length_singleton]; omega) (by omega)]
      simp only [shiftG]
      rw [List.filter_cons, if_pos (by simpa using h), List.map_cons, List.drop_zero, List.append_assoc]
      rfl
theorem shiftR_f (l g : List Int) (hl : l.length ≤ 3000) (hg : g.length ≤ 3000) : ∃ k, PAll.cabinetryref12_Shift.f k l g = some (shiftL l g, shiftE l g) := by
  refine ⟨l.length * (g.length + 2) + l.length + g.length + 10 + 1, ?_⟩
  rw [PAll.cabinetryref12_Shift.f, isSetR_f l _ (by omega) (by omega), Option.bind_some, isSetR_f g _ (by omega) (by omega), Option.bind_some]
  unfold shiftL shiftE
  by_cases h1 : setB 300 l = true
  · rw [if_pos h1]
    by_cases h2 : setB 300 g = true
    · rw [if_pos ⟨h1, h2⟩, if_pos ⟨h1, h2⟩, h2, PAll.cabinetryref12_Shift.j0, if_neg (by decide)]
      have h := shiftR_l0 l g hl hg (fun x hx => by have := set_mem h1 x hx; omega) l.length 0 (l.length * (g.length + 2) + l.length + g.length + 10) [] (by omega) (by omega) (by simp) (by omega)
      rw [show ((0 : Nat) : Int) = 0 from rfl] at h
      rw [h, List.nil_append, List.drop_zero, shiftF, lessF_filter (set_asc h1) (set_asc h2)]
      rfl
    · rw [if_neg (fun h => h2 h.2), if_neg (fun h => h2 h.2), PAll.cabinetryref12_Shift.j0, if_pos (by simpa using h2)]
  · rw [if_neg h1, if_neg (fun h => h1 h.1), if_neg (fun h => h1 h.1), PAll.cabinetryref12_Shift.j0, if_pos rfl]
theorem ShiftR_any (A0 : Option Addr) (c0 : Nat) (l0 : List Int) (A1 : Option Addr) (c1 : Nat) (l1 : List Int) (w : World)
    (hr0 : Kd.C (Kd.int .i64) w A0 l0.length l0) (hc0 : l0.length ≤ c0) (hr1 : Kd.C (Kd.int .i64) w A1 l1.length l1) (hc1 : l1.length ≤ c1) (hl0 : l0.length ≤ 3000) (hl1 : l1.length ≤ 3000) :
    Calls Try.prog 14 #[.slice A0 l0.length c0, .slice A1 l1.length c1] w fun e w' => ∃ v : Value, e = .returned (.tuple #[v, .int .i64 (shiftE l0 l1)]) ∧ Own w' w.heap.size v (shiftL l0 l1) ∧ Below w.heap.size w w' := by
  obtain ⟨k, hk⟩ := shiftR_f l0 l1 hl0 hl1
  exact PAll.cabinetryref12_Shift.calls k A0 c0 l0 A1 c1 l1 _ _ w hr0 hc0 hr1 hc1 hk
end Go.Proofs.Ytpbdlkbiiglkdaa

/- What the reference answers: Validate, And, Or, Not, Any, True, Doubt. -/
set_option linter.unusedVariables false
set_option linter.unusedSimpArgs false
namespace Go.Proofs.Ytpbdlkbiiglkdaa
open Go.RowKit Go.Proofs.YtpbdlkbiiglkdaaW.PrintWords Go.Proofs.YtpbdlkbiiglkdaaW.PrintLast Go.Proofs.YtpbdlkbiiglkdaaW.PrintMore Go.Proofs.Cab

theorem if_congr' {a b : Prop} [Decidable a] [Decidable b] (h : a ↔ b) (x y : Int) : (if a then x else y) = (if b then x else y) := by
  by_cases ha : a
  · rw [if_pos ha, if_pos (h.1 ha)]
  · rw [if_neg ha, if_neg fun hb => ha (h.2 hb)]
theorem filter_mem_nil {s m : List Int} : (s.filter fun x => !decide (x ∈ m)) = [] ↔ ∀ x ∈ s, x ∈ m := by
  rw [List.filter_eq_nil_iff]
  simp
theorem valR_l0 (s m : List Int) (hs : s.length ≤ 3000) (hm : m.length ≤ 3000) : ∀ (d i k : Nat), s.length - i = d → i ≤ s.length → d + 3001 < k →
    PAll.cabinetryref12_Validate.l0 k (i : Int) s m = some (if ∀ x ∈ s.drop i, x ∈ m then 0 else 1)
  | 0, i, k + 1, hd, hi, hk => by
    obtain rfl : i = s.length := by omega
    rw [PAll.cabinetryref12_Validate.l0, if_neg (by omega), List.drop_length]
    simp
  | d + 1, i, k + 1, hd, hi, hk => by
    have hlt : i < s.length := by omega
    have hw : wrap64 ((i : Int) + 1) = ((i + 1 : Nat) : Int) := by rw [wrap_id (by omega) (by omega)]; omega
    rw [PAll.cabinetryref12_Validate.l0, if_pos (by omega), if_pos (by omega), rd_at s i hlt, hasR_f _ _ _ (by omega) (by omega), Option.bind_some, drop_at s i hlt]
    by_cases h : s[i] ∈ m
    · rw [if_pos (decide_eq_true h), hw, valR_l0 s m hs hm d (i + 1) k (by omega) (by omega) (by omega)]
      congr 1
      exact if_congr' ⟨fun e x hx => (List.mem_cons.1 hx).elim (fun h' => h' ▸ h) (e x), fun e x hx => e x (List.mem_cons_of_mem _ hx)⟩ _ _
    · rw [if_neg (by simpa using h), if_neg fun e => h (e _ List.mem_cons_self)]
theorem valR_f (s m : List Int) (k : Nat) (hs : s.length ≤ 3000) (hm : m.length ≤ 3000) (hk : 8000 ≤ k) : PAll.cabinetryref12_Validate.f k s m = some (valE s m) := by
  obtain ⟨k, rfl⟩ : ∃ j, k = j + 1 := ⟨k - 1, by omega⟩
  rw [PAll.cabinetryref12_Validate.f, isSetR_f s _ (by omega) (by omega), Option.bind_some, isSetR_f m _ (by omega) (by omega), Option.bind_some]
  unfold valE
  by_cases h1 : setB 300 s = true
  · rw [if_pos h1]
    by_cases h2 : setB 300 m = true
    · rw [h2, PAll.cabinetryref12_Validate.j0, if_neg (by decide)]
      have h := valR_l0 s m hs hm s.length 0 k (by omega) (by omega) (by omega)
      rw [show ((0 : Nat) : Int) = 0 from rfl, List.drop_zero] at h
      rw [h]
      congr 1
      refine if_congr' ?_ _ _
      rw [lessF_filter (set_asc h1) (set_asc h2), filter_mem_nil]
      exact ⟨fun e => ⟨h1, rfl, e⟩, fun e => e.2.2⟩
    · rw [PAll.cabinetryref12_Validate.j0, if_pos (by simpa using h2), if_neg fun e => h2 e.2.1]
  · rw [if_neg h1, PAll.cabinetryref12_Validate.j0, if_pos rfl, if_neg fun e => h1 e.1]
theorem bothR_f (s m t n : List Int) (k : Nat) (hs : s.length ≤ 3000) (hm : m.length ≤ 3000) (ht : t.length ≤ 3000) (hn : n.length ≤ 3000) (hk : 8000 ≤ k) : PAll.cabinetryref12_both.f k s m t n = some (bothE s m t n) := by
  rw [PAll.cabinetryref12_both.f, valR_f s m k hs hm hk, Option.bind_some, valR_f t n k ht hn hk, Option.bind_some]
  unfold bothE
  split <;> rfl
theorem inBothR_l0 (l g : List Int) (hl : l.length ≤ 3000) (hg : g.length ≤ 3000) : ∀ (d i k : Nat) (out : List Int), l.length - i = d → i ≤ l.length → out.length ≤ i → d + 3001 < k →
    PAll.cabinetryref12_inBoth.l0 k l g out (i : Int) = some (out ++ (l.drop i).filter fun x => decide (x ∈ g))
  | 0, i, k + 1, out, hd, hi, ho, hk => by
    obtain rfl : i = l.length := by omega
    rw [PAll.cabinetryref12_inBoth.l0, if_neg (by omega), List.drop_length]
    simp
  | d + 1, i, k + 1, out, hd, hi, ho, hk => by
    have hlt : i < l.length := by omega
    have hw : wrap64 ((i : Int) + 1) = ((i + 1 : Nat) : Int) := by rw [wrap_id (by omega) (by omega)]; omega
    rw [PAll.cabinetryref12_inBoth.l0, if_pos (by omega), if_pos (by omega), rd_at l i hlt, hasR_f _ _ _ (by omega) (by omega), Option.bind_some, drop_at l i hlt, List.filter_cons, hw]
    by_cases h : l[i] ∈ g
    · rw [if_pos (decide_eq_true h), if_pos (by omega), if_pos (decide_eq_true h), inBothR_l0 l g hl hg d (i + 1) k _ (by omega) (by omega) (by rw [List.length_append, List.length_singleton]; omega) (by omega), List.append_assoc]
      rfl
    · rw [if_neg (by simpa using h), if_neg (by simpa using h), inBothR_l0 l g hl hg d (i + 1) k _ (by omega) (by omega) (by omega) (by omega)]
theorem inBothR_f (l g : List Int) (k : Nat) (hl : l.length ≤ 3000) (hg : g.length ≤ 3000) (hk : 8000 ≤ k) : PAll.cabinetryref12_inBoth.f k l g = some (l.filter fun x => decide (x ∈ g)) :=
  inBothR_l0 l g hl hg l.length 0 k [] (by omega) (by omega) (by simp) (by omega)
theorem lessR_l0 (l g : List Int) (hl : l.length ≤ 3000) (hg : g.length ≤ 3000) : ∀ (d i k : Nat) (out : List Int), l.length - i = d → i ≤ l.length → out.length ≤ i → d + 3001 < k →
    PAll.cabinetryref12_less.l0 k l g out (i : Int) = some (out ++ (l.drop i).filter fun x => !decide (x ∈ g))
  | 0, i, k + 1, out, hd, hi, ho, hk => by
    obtain rfl : i = l.length := by omega
    rw [PAll.cabinetryref12_less.l0, if_neg (by omega), List.drop_length]
    simp
  | d + 1, i, k + 1, out, hd, hi, ho, hk => by
    have hlt : i < l.length := by omega
    have hw : wrap64 ((i : Int) + 1) = ((i + 1 : Nat) : Int) := by rw [wrap_id (by omega) (by omega)]; omega
    rw [PAll.cabinetryref12_less.l0, if_pos (by omega), if_pos (by omega), rd_at l i hlt, hasR_f _ _ _ (by omega) (by omega), Option.bind_some, drop_at l i hlt, List.filter_cons, hw]
    by_cases h : l[i] ∈ g
    · rw [if_pos (decide_eq_true h), if_neg (by simpa using h), lessR_l0 l g hl hg d (i + 1) k _ (by omega) (by omega) (by omega) (by omega)]
    · rw [if_neg (by simpa using h), if_pos (by omega), if_pos (by simpa using h), lessR_l0 l g hl hg d (i + 1) k _ (by omega) (by omega) (by rw [List.length_append, List.length_singleton]; omega) (by omega), List.append_assoc]
      rfl
theorem lessR_f (l g : List Int) (k : Nat) (hl : l.length ≤ 3000) (hg : g.length ≤ 3000) (hk : 8000 ≤ k) : PAll.cabinetryref12_less.f k l g = some (l.filter fun x => !decide (x ∈ g)) :=
  lessR_l0 l g hl hg l.length 0 k [] (by omega) (by omega) (by simp) (by omega)

/-- The numbers from i on to n. -/
def fromTo (n : Int) : Nat → Int → List Int
  | 0, _ => []
  | d + 1, i => i :: fromTo n d (i + 1)
theorem fromTo_mem (n : Int) : ∀ (d : Nat) (i : Int), ∀ x, x ∈ fromTo n d i ↔ i ≤ x ∧ x < i + d
  | 0, i, x => ⟨fun h => absurd h (by simp [fromTo]), fun h => by omega⟩
  | d + 1, i, x => by
    rw [fromTo, List.mem_cons, fromTo_mem n d (i + 1) x]
    omega
theorem fromTo_asc (n : Int) : ∀ (d : Nat) (i : Int), (fromTo n d i).Pairwise (· < ·)
  | 0, i => List.Pairwise.nil
  | d + 1, i => List.pairwise_cons.2 ⟨fun x hx => by rw [fromTo_mem] at hx; omega, fromTo_asc n d (i + 1)⟩
theorem upTo_fromTo (n : Int) : upTo n = fromTo n n.toNat 1 := sorted_ext (upTo_asc n) (fromTo_asc _ _ _) fun z => by
  rw [upTo_mem, fromTo_mem]
  omega
theorem eitherR_l0 (l g : List Int) (hl : l.length ≤ 3000) (hg : g.length ≤ 3000) : ∀ (d : Nat) (i : Int) (k : Nat) (out : List Int), 300 + 1 - i = d → 1 ≤ i → out.length < i → d + 3001 < k →
    PAll.cabinetryref12_either.l0 k l g out i = some (out ++ (fromTo 300 d i).filter fun x => decide (x ∈ l) || decide (x ∈ g))
  | 0, i, k + 1, out, hd, hi, ho, hk => by
    rw [PAll.cabinetryref12_either.l0, if_neg (by omega)]
    simp [fromTo]
  | d + 1, i, k + 1, out, hd, hi, ho, hk => by
    have hw : wrap64 (i + 1) = i + 1 := wrap_id (by omega) (by omega)
    rw [PAll.cabinetryref12_either.l0, if_pos (by omega), hasR_f _ _ _ (by omega) (by omega), Option.bind_some, hw, fromTo, List.filter_cons]
    by_cases h : i ∈ l
    · rw [if_pos (decide_eq_true h), if_pos (by omega), if_pos (by simp [h]), eitherR_l0 l g hl hg d (i + 1) k _ (by omega) (by omega) (by rw [List.length_append, List.length_singleton]; omega) (by omega), List.append_assoc]
      rfl
    · rw [if_neg (by simpa using h), hasR_f _ _ _ (by omega) (by omega), Option.bind_some]
      by_cases h2 : i ∈ g
      · rw [if_pos (decide_eq_true h2), if_pos (by omega), if_pos (by simp [h2]), eitherR_l0 l g hl hg d (i + 1) k _ (by omega) (by omega) (by rw [List.length_append, List.length_singleton]; omega) (by omega), List.append_assoc]
        rfl
      · rw [if_neg (by simpa using h2), if_neg (by simp [h, h2]), eitherR_l0 l g hl hg d (i + 1) k _ (by omega) (by omega) (by omega) (by omega)]
theorem eitherR_f (l g : List Int) (k : Nat) (hl : l.length ≤ 3000) (hg : g.length ≤ 3000) (hk : 8000 ≤ k) : PAll.cabinetryref12_either.f k l g = some ((upTo 300).filter fun x => decide (x ∈ l) || decide (x ∈ g)) := by
  rw [upTo_fromTo]
  exact eitherR_l0 l g hl hg 300 1 k [] (by omega) (by omega) (by simp) (by omega)
theorem upToR_l0 (n : Int) (hn : n ≤ 300) : ∀ (d : Nat) (i : Int) (k : Nat) (out : List Int), n + 1 - i ≤ d → (d = 0 ∨ n + 1 - i = d) → 1 ≤ i → i ≤ 301 → out.length < i → d < k →
    PAll.cabinetryref12_upTo.l0 k n out i = some (out ++ fromTo n d i)
  | 0, i, k + 1, out, hd, hd2, hi, hi2, ho, hk => by
    rw [PAll.cabinetryref12_upTo.l0, if_neg (by omega)]
    simp [fromTo]
  | d + 1, i, k + 1, out, hd, hd2, hi, hi2, ho, hk => by
    have hw : wrap64 (i + 1) = i + 1 := wrap_id (by omega) (by omega)
    rw [PAll.cabinetryref12_upTo.l0, if_pos (by omega), if_pos (by omega), hw, fromTo, upToR_l0 n hn d (i + 1) k _ (by omega) (by omega) (by omega) (by omega) (by rw [List.length_append, List.length_singleton]; omega) (by omega), List.append_assoc]
    rfl
theorem upToR_f (n : Int) (k : Nat) (hn : n ≤ 300) (hk : 8000 ≤ k) : PAll.cabinetryref12_upTo.f k n = some (upTo n) := by
  rw [upTo_fromTo]
  exact upToR_l0 n hn n.toNat 1 k [] (by omega) (by omega) (by omega) (by omega) (by simp) (by omega)

/-- A set's last number is its greatest. -/
theorem set_last {l : List Int} (h : setB 300 l = true) (n : Int) (h0 : 0 ≤ n) (hl : 0 < l.length) : setB n l = decide (l[l.length - 1] ≤ n) := by
  have ha := set_asc h
  have hm := set_mem h
  have hle : ∀ x ∈ l, x ≤ l[l.length - 1] := fun x hx => by
    obtain ⟨i, hi, rfl⟩ := List.getElem_of_mem hx
    rcases Nat.lt_or_ge i (l.length - 1) with hlt | hge
    · exact Int.le_of_lt (List.pairwise_iff_getElem.1 ha i (l.length - 1) hi (by omega) hlt)
    · have : i = l.length - 1 := by omega
      subst this
      exact Int.le_refl _
  rw [Bool.eq_iff_iff, decide_eq_true_iff]
  constructor
  · intro e
    exact (set_mem e _ (List.getElem_mem (by omega))).2
  · intro e
    have key : ∀ (l : List Int) (p : Int), l.Pairwise (· < ·) → (∀ x ∈ l, p < x ∧ x ≤ n) → setFrom n p l = true := by
      intro l
      induction l with
      | nil => exact fun _ _ _ => rfl
      | cons x l ih =>
        intro p hp hx
        obtain ⟨h1, h2⟩ := List.pairwise_cons.1 hp
        simp only [setFrom, Bool.and_eq_true, decide_eq_true_eq]
        exact ⟨(hx x List.mem_cons_self).1, (hx x List.mem_cons_self).2, ih x h2 fun y hy => ⟨h1 y hy, (hx y (List.mem_cons_of_mem _ hy)).2⟩⟩
    exact key l 0 ha fun x hx => ⟨by have := hm x hx; omega, Int.le_trans (hle x hx) e⟩
theorem isBelowR_f (l : List Int) (n : Int) (hl : l.length ≤ 3000) (h : setB 300 l = true) : PAll.cabinetryref12_isBelow.f l n = some (countB n && setB n l) := by
  rw [PAll.cabinetryref12_isBelow.f]
  unfold countB
  by_cases h0 : 0 ≤ n
  · rw [if_pos h0, decide_eq_true h0]
    by_cases h1 : n ≤ 300
    · rw [if_pos h1, decide_eq_true h1]
      by_cases h2 : (l.length : Int) = 0
      · rw [if_pos h2]
        obtain rfl : l = [] := List.eq_nil_of_length_eq_zero (by omega)
        rfl
      · have hw : wrap64 ((l.length : Int) - 1) = ((l.length - 1 : Nat) : Int) := by rw [wrap_id (by omega) (by omega)]; omega
        rw [if_neg h2, hw, if_pos (by omega), if_pos (by omega), rd_at l _ (by omega), set_last h n h0 (by omega)]
        simp
    · rw [if_neg h1, decide_eq_false h1]
      rfl
  · rw [if_neg h0, decide_eq_false h0]
    rfl
end Go.Proofs.Ytpbdlkbiiglkdaa

/- The reference's And, Or, Not, Any, True, Doubt by contract. -/
set_option linter.unusedVariables false
set_option linter.unusedSimpArgs false
namespace Go.Proofs.Ytpbdlkbiiglkdaa
open Go.RowKit Go.Proofs.YtpbdlkbiiglkdaaW.PrintWords Go.Proofs.YtpbdlkbiiglkdaaW.PrintLast Go.Proofs.YtpbdlkbiiglkdaaW.PrintMore Go.Proofs.Cab

theorem valE_sets {s m : List Int} (h : valE s m = 0) : setB 300 s = true ∧ setB 300 m = true ∧ lessF s m = [] := by
  unfold valE at h
  split at h
  · assumption
  · cases h
theorem bothE_zero {l0 l1 m0 m1 : List Int} : bothE l0 l1 m0 m1 = 0 ↔ valE l0 l1 = 0 ∧ valE m0 m1 = 0 := by
  unfold bothE
  by_cases h : valE l0 l1 = 0
  · rw [if_pos h]; simp [h]
  · rw [if_neg h]; simp [h]
theorem AndR_f (l0 l1 m0 m1 : List Int) (h0 : l0.length ≤ 3000) (h1 : l1.length ≤ 3000) (h2 : m0.length ≤ 3000) (h3 : m1.length ≤ 3000) :
    PAll.cabinetryref12_And.f 8000 l0 l1 m0 m1 = some (bothL (fun a b => a && b) l0 l1 m0 m1 l0 m0, bothL (fun a b => a && b) l0 l1 m0 m1 l1 m1, bothE l0 l1 m0 m1) := by
  rw [PAll.cabinetryref12_And.f, bothR_f _ _ _ _ _ h0 h1 h2 h3 (Nat.le_refl _), Option.bind_some, inBothR_f _ _ _ h0 h2 (Nat.le_refl _), Option.bind_some, inBothR_f _ _ _ h1 h3 (Nat.le_refl _), Option.bind_some]
  unfold bothL
  by_cases h : bothE l0 l1 m0 m1 = 0
  · obtain ⟨a, b⟩ := bothE_zero.1 h
    obtain ⟨a1, a2, _⟩ := valE_sets a
    obtain ⟨b1, b2, _⟩ := valE_sets b
    rw [if_pos h, if_pos ⟨a, b⟩, if_pos ⟨a, b⟩, h, ← bothF_filter (set_asc a1) (set_asc b1), ← bothF_filter (set_asc a2) (set_asc b2)]
    rfl
  · rw [if_neg h, if_neg fun e => h (bothE_zero.2 e), if_neg fun e => h (bothE_zero.2 e)]
theorem OrR_f (l0 l1 m0 m1 : List Int) (h0 : l0.length ≤ 3000) (h1 : l1.length ≤ 3000) (h2 : m0.length ≤ 3000) (h3 : m1.length ≤ 3000) :
    PAll.cabinetryref12_Or.f 8000 l0 l1 m0 m1 = some (bothL (fun a b => a || b) l0 l1 m0 m1 l0 m0, bothL (fun a b => a || b) l0 l1 m0 m1 l1 m1, bothE l0 l1 m0 m1) := by
  rw [PAll.cabinetryref12_Or.f, bothR_f _ _ _ _ _ h0 h1 h2 h3 (Nat.le_refl _), Option.bind_some, eitherR_f _ _ _ h0 h2 (Nat.le_refl _), Option.bind_some, eitherR_f _ _ _ h1 h3 (Nat.le_refl _), Option.bind_some]
  unfold bothL
  by_cases h : bothE l0 l1 m0 m1 = 0
  · obtain ⟨a, b⟩ := bothE_zero.1 h
    obtain ⟨a1, a2, _⟩ := valE_sets a
    obtain ⟨b1, b2, _⟩ := valE_sets b
    rw [if_pos h, if_pos ⟨a, b⟩, if_pos ⟨a, b⟩, h, ← anyF_filter a1 b1, ← anyF_filter a2 b2]
    rfl
  · rw [if_neg h, if_neg fun e => h (bothE_zero.2 e), if_neg fun e => h (bothE_zero.2 e)]
theorem countB_range {n : Int} (h : countB n = true) : 0 ≤ n ∧ n ≤ 300 := by
  unfold countB at h
  simpa using h
theorem NotR_f (l0 l1 : List Int) (n : Int) (h0 : l0.length ≤ 3000) (h1 : l1.length ≤ 3000) :
    PAll.cabinetryref12_Not.f 8000 l0 l1 n = some (notL l0 l1 n l1, notL l0 l1 n l0, notE l0 l1 n) := by
  rw [PAll.cabinetryref12_Not.f, valR_f _ _ _ h0 h1 (Nat.le_refl _), Option.bind_some]
  by_cases h : valE l0 l1 = 0
  · obtain ⟨a1, a2, _⟩ := valE_sets h
    rw [if_pos h, isBelowR_f _ _ h1 a2, Option.bind_some]
    by_cases hc : (countB n && setB n l1) = true
    · obtain ⟨c1, c2⟩ := Bool.and_eq_true_iff.1 hc
      have hn := countB_range c1
      have hu : (upTo n).length ≤ 3000 := by rw [upTo_length]; omega
      have hE : notE l0 l1 n = 0 := by unfold notE; rw [if_pos h, if_pos ⟨c1, c2⟩]
      unfold notL
      rw [if_pos hc, if_pos hE, if_pos hE, hE, upToR_f n _ hn.2 (Nat.le_refl _), Option.bind_some, lessR_f _ _ _ hu h1 (Nat.le_refl _), Option.bind_some, Option.bind_some, lessR_f _ _ _ hu h0 (Nat.le_refl _), Option.bind_some,
        lessF_filter (upTo_asc n) (set_asc a2), lessF_filter (upTo_asc n) (set_asc a1)]
    · have hE : notE l0 l1 n = 1 := by unfold notE; rw [if_pos h, if_neg fun e => hc (Bool.and_eq_true_iff.2 e)]
      unfold notL
      rw [if_neg hc, hE, if_neg (by decide), if_neg (by decide)]
  · have hz : ¬ notE l0 l1 n = 0 := by unfold notE; rw [if_neg h]; exact h
    rw [if_neg h]
    unfold notL
    rw [if_neg hz, if_neg hz]
    unfold notE
    rw [if_neg h]
def anyE (n : Int) : Int := if countB n = true then 0 else 1
def anyL (n : Int) : List Int := if countB n = true then upTo n else []
theorem AnyR_f (n : Int) : PAll.cabinetryref12_Any.f 8000 n = some ([], anyL n, anyE n) := by
  rw [PAll.cabinetryref12_Any.f, isBelowR_f _ _ (by simp) rfl, Option.bind_some, show setB n [] = true from rfl, Bool.and_true]
  unfold anyL anyE
  by_cases h : countB n = true
  · rw [if_pos h, if_pos h, if_pos h, upToR_f n _ (countB_range h).2 (Nat.le_refl _), Option.bind_some]
  · rw [if_neg h, if_neg h, if_neg h]
theorem isCount_f (n : Int) : PAll.bits_isCount.f n = some (countB n) := by
  unfold PAll.bits_isCount.f countB
  by_cases h : 0 ≤ n
  · rw [if_pos h, decide_eq_true h]; rfl
  · rw [if_neg h, decide_eq_false h]; rfl
theorem all_f (n : Int) (hn : n ≤ 300) : PAll.bits_all.f (n.toNat + 1) n = some (upTo n) := by
  have := all_l0 n hn n.toNat 0 (by omega) (by omega)
  simpa [PAll.bits_all.f] using this
theorem Any_f (n : Int) : ∃ k, PAll.bits_Any.f k n = some ([], anyL n, anyE n) := by
  refine ⟨n.toNat + 1, ?_⟩
  rw [PAll.bits_Any.f, isCount_f, Option.bind_some]
  unfold anyL anyE
  by_cases h : countB n = true
  · rw [if_pos h, if_pos h, if_pos h, all_f n (countB_range h).2, Option.bind_some]
  · rw [if_neg h, if_neg h, if_neg h]
/-- What True answers. -/
def trueE (l0 l1 l : List Int) : Int := if valE l0 l1 = 0 then (if setB 300 l = true then 0 else 1) else valE l0 l1
def trueB (l0 l1 l : List Int) : Bool := if trueE l0 l1 l = 0 then (decide (lessF l0 l = []) && decide (lessF l l1 = [])) else false
theorem TrueR_f (l0 l1 l : List Int) (h0 : l0.length ≤ 3000) (h1 : l1.length ≤ 3000) (h2 : l.length ≤ 3000) : PAll.cabinetryref12_True.f 8000 l0 l1 l = some (trueB l0 l1 l, trueE l0 l1 l) := by
  rw [PAll.cabinetryref12_True.f, valR_f _ _ _ h0 h1 (Nat.le_refl _), Option.bind_some]
  unfold trueB trueE
  by_cases h : valE l0 l1 = 0
  · obtain ⟨a1, a2, _⟩ := valE_sets h
    rw [if_pos h, if_pos h, isSetR_f _ _ (by omega) (by omega), Option.bind_some]
    by_cases hc : setB 300 l = true
    · rw [if_pos hc, if_pos hc, if_pos rfl, lessR_f _ _ _ h0 h2 (Nat.le_refl _), Option.bind_some, lessR_f _ _ _ h2 h1 (Nat.le_refl _), Option.bind_some, ← lessF_filter (set_asc a1) (set_asc hc), ← lessF_filter (set_asc hc) (set_asc a2)]
      by_cases h3 : lessF l0 l = []
      · rw [h3, if_pos (show (([] : List Int).length : Int) = 0 from rfl)]
        have e : (((lessF l l1).length : Int) == 0) = decide (lessF l l1 = []) := by
          cases lessF l l1 with
          | nil => rfl
          | cons x t => rw [decide_eq_false (by simp)]; simp only [List.length_cons, beq_eq_false_iff_ne]; omega
        rw [e]
        rfl
      · rw [if_neg (by intro e; exact h3 (List.eq_nil_of_length_eq_zero (by omega)))]
        simp [h3]
    · rw [if_neg hc, if_neg hc, if_neg (by decide)]
  · rw [if_neg h, if_neg h, if_neg h]
def doubtL (l0 l1 : List Int) : List Int := if valE l0 l1 = 0 then lessF l1 l0 else []
theorem DoubtR_f (l0 l1 : List Int) (h0 : l0.length ≤ 3000) (h1 : l1.length ≤ 3000) : PAll.cabinetryref12_Doubt.f 8000 l0 l1 = some (doubtL l0 l1, valE l0 l1) := by
  rw [PAll.cabinetryref12_Doubt.f, valR_f _ _ _ h0 h1 (Nat.le_refl _), Option.bind_some]
  unfold doubtL
  by_cases h : valE l0 l1 = 0
  · obtain ⟨a1, a2, _⟩ := valE_sets h
    rw [if_pos h, if_pos h, lessR_f _ _ _ h1 h0 (Nat.le_refl _), Option.bind_some, ← lessF_filter (set_asc a2) (set_asc a1), h]
  · rw [if_neg h, if_neg h]

theorem own_of_R {w : World} {base : Nat} {ok : Nat → Prop} {v : Value} {xs : List Int} (h : Kd.R (Kd.int .i64) 3 w base ok v xs) : Own w base v xs := Kd.R_mono h fun _ _ => trivial
section
variable (Ax0 : Option Addr) (cx0 : Nat) (lx0 : List Int) (Ax1 : Option Addr) (cx1 : Nat) (lx1 : List Int) (Ay0 : Option Addr) (cy0 : Nat) (ly0 : List Int) (Ay1 : Option Addr) (cy1 : Nat) (ly1 : List Int) (Al : Option Addr) (cl : Nat) (ll : List Int) (n : Int) (w : World)
theorem ValidateR_any (hrx0 : Kd.C (Kd.int .i64) w Ax0 lx0.length lx0) (hcx0 : lx0.length ≤ cx0) (hrx1 : Kd.C (Kd.int .i64) w Ax1 lx1.length lx1) (hcx1 : lx1.length ≤ cx1) (hl0 : lx0.length ≤ 3000) (hl1 : lx1.length ≤ 3000) :
    Calls Try.prog 23 #[.agg #[.slice Ax0 lx0.length cx0, .slice Ax1 lx1.length cx1]] w fun e w' => e = .returned (.int .i64 (valE lx0 lx1)) ∧ Below w.heap.size w w' :=
  PAll.cabinetryref12_Validate.calls 8000 Ax0 cx0 lx0 Ax1 cx1 lx1 _ w hrx0 hcx0 hrx1 hcx1 (valR_f _ _ _ hl0 hl1 (Nat.le_refl _))
theorem AndR_any (hrx0 : Kd.C (Kd.int .i64) w Ax0 lx0.length lx0) (hcx0 : lx0.length ≤ cx0) (hrx1 : Kd.C (Kd.int .i64) w Ax1 lx1.length lx1) (hcx1 : lx1.length ≤ cx1) (hry0 : Kd.C (Kd.int .i64) w Ay0 ly0.length ly0) (hcy0 : ly0.length ≤ cy0) (hry1 : Kd.C (Kd.int .i64) w Ay1 ly1.length ly1) (hcy1 : ly1.length ≤ cy1) (h0 : lx0.length ≤ 3000) (h1 : lx1.length ≤ 3000) (h2 : ly0.length ≤ 3000) (h3 : ly1.length ≤ 3000) :
    Calls Try.prog 18 #[.agg #[.slice Ax0 lx0.length cx0, .slice Ax1 lx1.length cx1], .agg #[.slice Ay0 ly0.length cy0, .slice Ay1 ly1.length cy1]] w fun e w' => ∃ v0 v1 : Value, e = .returned (.tuple #[.agg #[v0, v1], .int .i64 (bothE lx0 lx1 ly0 ly1)]) ∧
      Own w' w.heap.size v0 (bothL (fun a b => a && b) lx0 lx1 ly0 ly1 lx0 ly0) ∧ Own w' w.heap.size v1 (bothL (fun a b => a && b) lx0 lx1 ly0 ly1 lx1 ly1) ∧ Below w.heap.size w w' :=
  (PAll.cabinetryref12_And.calls 8000 Ax0 cx0 lx0 Ax1 cx1 lx1 Ay0 cy0 ly0 Ay1 cy1 ly1 _ _ _ w hrx0 hcx0 hrx1 hcx1 hry0 hcy0 hry1 hcy1 (AndR_f _ _ _ _ h0 h1 h2 h3)).mono fun e w' ⟨v0, v1, he, ho0, ho1, hb⟩ => ⟨v0, v1, he, own_of_R ho0, own_of_R ho1, hb⟩
theorem OrR_any (hrx0 : Kd.C (Kd.int .i64) w Ax0 lx0.length lx0) (hcx0 : lx0.length ≤ cx0) (hrx1 : Kd.C (Kd.int .i64) w Ax1 lx1.length lx1) (hcx1 : lx1.length ≤ cx1) (hry0 : Kd.C (Kd.int .i64) w Ay0 ly0.length ly0) (hcy0 : ly0.length ≤ cy0) (hry1 : Kd.C (Kd.int .i64) w Ay1 ly1.length ly1) (hcy1 : ly1.length ≤ cy1) (h0 : lx0.length ≤ 3000) (h1 : lx1.length ≤ 3000) (h2 : ly0.length ≤ 3000) (h3 : ly1.length ≤ 3000) :
    Calls Try.prog 20 #[.agg #[.slice Ax0 lx0.length cx0, .slice Ax1 lx1.length cx1], .agg #[.slice Ay0 ly0.length cy0, .slice Ay1 ly1.length cy1]] w fun e w' => ∃ v0 v1 : Value, e = .returned (.tuple #[.agg #[v0, v1], .int .i64 (bothE lx0 lx1 ly0 ly1)]) ∧
      Own w' w.heap.size v0 (bothL (fun a b => a || b) lx0 lx1 ly0 ly1 lx0 ly0) ∧ Own w' w.heap.size v1 (bothL (fun a b => a || b) lx0 lx1 ly0 ly1 lx1 ly1) ∧ Below w.heap.size w w' :=
  (PAll.cabinetryref12_Or.calls 8000 Ax0 cx0 lx0 Ax1 cx1 lx1 Ay0 cy0 ly0 Ay1 cy1 ly1 _ _ _ w hrx0 hcx0 hrx1 hcx1 hry0 hcy0 hry1 hcy1 (OrR_f _ _ _ _ h0 h1 h2 h3)).mono fun e w' ⟨v0, v1, he, ho0, ho1, hb⟩ => ⟨v0, v1, he, own_of_R ho0, own_of_R ho1, hb⟩
theorem NotR_any (hrx0 : Kd.C (Kd.int .i64) w Ax0 lx0.length lx0) (hcx0 : lx0.length ≤ cx0) (hrx1 : Kd.C (Kd.int .i64) w Ax1 lx1.length lx1) (hcx1 : lx1.length ≤ cx1) (h0 : lx0.length ≤ 3000) (h1 : lx1.length ≤ 3000) :
    Calls Try.prog 27 #[.agg #[.slice Ax0 lx0.length cx0, .slice Ax1 lx1.length cx1], .int .i64 n] w fun e w' => ∃ v0 v1 : Value, e = .returned (.tuple #[.agg #[v0, v1], .int .i64 (notE lx0 lx1 n)]) ∧
      Own w' w.heap.size v0 (notL lx0 lx1 n lx1) ∧ Own w' w.heap.size v1 (notL lx0 lx1 n lx0) ∧ Below w.heap.size w w' :=
  (PAll.cabinetryref12_Not.calls 8000 Ax0 cx0 lx0 Ax1 cx1 lx1 n _ _ _ w hrx0 hcx0 hrx1 hcx1 (NotR_f _ _ _ h0 h1)).mono fun e w' ⟨v0, v1, he, ho0, ho1, hb⟩ => ⟨v0, v1, he, own_of_R ho0, own_of_R ho1, hb⟩
theorem AnyR_any : Calls Try.prog 29 #[.int .i64 n] w fun e w' => ∃ v0 v1 : Value, e = .returned (.tuple #[.agg #[v0, v1], .int .i64 (anyE n)]) ∧
      Own w' w.heap.size v0 [] ∧ Own w' w.heap.size v1 (anyL n) ∧ Below w.heap.size w w' :=
  (PAll.cabinetryref12_Any.calls 8000 n _ _ _ w (AnyR_f n)).mono fun e w' ⟨v0, v1, he, ho0, ho1, hb⟩ => ⟨v0, v1, he, own_of_R ho0, own_of_R ho1, hb⟩
theorem Any_any : Calls Try.prog 28 #[.int .i64 n] w fun e w' => ∃ v0 v1 : Value, e = .returned (.tuple #[.agg #[v0, v1], .int .i64 (anyE n)]) ∧
      Own w' w.heap.size v0 [] ∧ Own w' w.heap.size v1 (anyL n) ∧ Below w.heap.size w w' := by
  obtain ⟨k, hk⟩ := Any_f n
  exact (PAll.bits_Any.calls k n _ _ _ w hk).mono fun e w' ⟨v0, v1, he, ho0, ho1, hb⟩ => ⟨v0, v1, he, own_of_R ho0, own_of_R ho1, hb⟩
theorem TrueR_any (hrx0 : Kd.C (Kd.int .i64) w Ax0 lx0.length lx0) (hcx0 : lx0.length ≤ cx0) (hrx1 : Kd.C (Kd.int .i64) w Ax1 lx1.length lx1) (hcx1 : lx1.length ≤ cx1) (hrl : Kd.C (Kd.int .i64) w Al ll.length ll) (hcl : ll.length ≤ cl) (h0 : lx0.length ≤ 3000) (h1 : lx1.length ≤ 3000) (h2 : ll.length ≤ 3000) :
    Calls Try.prog 31 #[.agg #[.slice Ax0 lx0.length cx0, .slice Ax1 lx1.length cx1], .slice Al ll.length cl] w fun e w' => e = .returned (.tuple #[.bool (trueB lx0 lx1 ll), .int .i64 (trueE lx0 lx1 ll)]) ∧ Below w.heap.size w w' :=
  PAll.cabinetryref12_True.calls 8000 Ax0 cx0 lx0 Ax1 cx1 lx1 Al cl ll _ _ w hrx0 hcx0 hrx1 hcx1 hrl hcl (TrueR_f _ _ _ h0 h1 h2)
theorem DoubtR_any (hrx0 : Kd.C (Kd.int .i64) w Ax0 lx0.length lx0) (hcx0 : lx0.length ≤ cx0) (hrx1 : Kd.C (Kd.int .i64) w Ax1 lx1.length lx1) (hcx1 : lx1.length ≤ cx1) (h0 : lx0.length ≤ 3000) (h1 : lx1.length ≤ 3000) :
    Calls Try.prog 36 #[.agg #[.slice Ax0 lx0.length cx0, .slice Ax1 lx1.length cx1]] w fun e w' => ∃ v : Value, e = .returned (.tuple #[v, .int .i64 (valE lx0 lx1)]) ∧ Own w' w.heap.size v (doubtL lx0 lx1) ∧ Below w.heap.size w w' :=
  (PAll.cabinetryref12_Doubt.calls 8000 Ax0 cx0 lx0 Ax1 cx1 lx1 _ _ w hrx0 hcx0 hrx1 hcx1 (DoubtR_f _ _ h0 h1)).mono fun e w' ⟨v0, he, ho0, hb⟩ => ⟨v0, he, own_of_R ho0, hb⟩
def overB (l0 l1 : List Int) : Bool := decide ((l0.length : Int) > 3000) || decide ((l1.length : Int) > 3000)
theorem over_f (l0 l1 : List Int) : PAll.cabinetrylaw12_over.f l0 l1 = some (overB l0 l1) := by
  unfold PAll.cabinetrylaw12_over.f overB
  by_cases h : (l0.length : Int) > 3000
  · rw [if_pos h, decide_eq_true h]; rfl
  · rw [if_neg h, decide_eq_false h]; rfl
theorem over_any (hrx0 : Kd.C (Kd.int .i64) w Ax0 lx0.length lx0) (hcx0 : lx0.length ≤ cx0) (hrx1 : Kd.C (Kd.int .i64) w Ax1 lx1.length lx1) (hcx1 : lx1.length ≤ cx1) : Calls Try.prog 16 #[.agg #[.slice Ax0 lx0.length cx0, .slice Ax1 lx1.length cx1]] w fun e w' => e = .returned (.bool (overB lx0 lx1)) ∧ Below w.heap.size w w' :=
  PAll.cabinetrylaw12_over.calls Ax0 cx0 lx0 Ax1 cx1 lx1 _ w hrx0 hcx0 hrx1 hcx1 (over_f _ _)
theorem overB_false {l0 l1 : List Int} (h : overB l0 l1 = false) : l0.length ≤ 3000 ∧ l1.length ≤ 3000 := by
  unfold overB at h
  simp at h
  omega
end
end Go.Proofs.Ytpbdlkbiiglkdaa

/- The law BitsJoins, walked. -/
set_option linter.unusedVariables false
set_option linter.unusedSimpArgs false
namespace Go.Proofs.Ytpbdlkbiiglkdaa
open Go.RowKit Go.Proofs.YtpbdlkbiiglkdaaW.PrintWords Go.Proofs.YtpbdlkbiiglkdaaW.PrintLast Go.Proofs.YtpbdlkbiiglkdaaW.PrintMore Go.Proofs.Cab

/-- Knowledge in a box of its own. -/
def Held (w : World) (b : Nat) (v0 v1 : Value) : Prop := w.heap[b]? = some (.cells #[v0, v1] 29 (0, 0)) ∧ b < w.heap.size
theorem Held.new (w : World) (v0 v1 : Value) : Held (w.alloc (.cells #[v0, v1] 29)) w.heap.size v0 v1 := ⟨blk_new _ _, by rw [alloc_size]; omega⟩
theorem Held.below {w w1 : World} {b : Nat} {v0 v1 : Value} (h : Held w b v0 v1) (hb : Below w.heap.size w w1) : Held w1 b v0 v1 := ⟨(hb.block b h.2).trans h.1, Nat.lt_of_lt_of_le h.2 hb.size⟩
theorem Held.alloc {w : World} {b : Nat} {v0 v1 : Value} (h : Held w b v0 v1) (o : Obj) : Held (w.alloc o) b v0 v1 := h.below (below_alloc (Below.refl _ _) _)
theorem Held.c0 {w : World} {b : Nat} {v0 v1 : Value} (h : Held w b v0 v1) : w.cell? ⟨b, 0, none⟩ = some v0 := (blk_cell h.1 0).trans rfl
theorem Held.c1 {w : World} {b : Nat} {v0 v1 : Value} (h : Held w b v0 v1) : w.cell? ⟨b, 1, none⟩ = some v1 := (blk_cell h.1 1).trans rfl
theorem Held.at_ {w : World} {b n : Nat} {v0 v1 : Value} (h : Held w b v0 v1) (e : b = n) : Held w n v0 v1 := e ▸ h

set_option maxHeartbeats 4000000 in
set_option maxRecDepth 100000 in
theorem BitsJoins_any (Ax0 : Option Addr) (cx0 : Nat) (lx0 : List Int) (Ax1 : Option Addr) (cx1 : Nat) (lx1 : List Int) (Ay0 : Option Addr) (cy0 : Nat) (ly0 : List Int) (Ay1 : Option Addr) (cy1 : Nat) (ly1 : List Int) (w : World) (hrx0 : Kd.C (Kd.int .i64) w Ax0 lx0.length lx0) (hcx0 : lx0.length ≤ cx0) (hrx1 : Kd.C (Kd.int .i64) w Ax1 lx1.length lx1) (hcx1 : lx1.length ≤ cx1) (hry0 : Kd.C (Kd.int .i64) w Ay0 ly0.length ly0) (hcy0 : ly0.length ≤ cy0) (hry1 : Kd.C (Kd.int .i64) w Ay1 ly1.length ly1) (hcy1 : ly1.length ≤ cy1) :
    Calls Try.prog 4 #[.agg #[.slice Ax0 lx0.length cx0, .slice Ax1 lx1.length cx1], .agg #[.slice Ay0 ly0.length cy0, .slice Ay1 ly1.length cy1]] w fun e w' => e = .returned (.bool true) ∧ Below w.heap.size w w' := by
  have HRx0 := Aside0.mk hrx0
  have HCx0 := Aside0.mk hcx0
  have HRx1 := Aside0.mk hrx1
  have HCx1 := Aside0.mk hcx1
  have HRy0 := Aside0.mk hry0
  have HCy0 := Aside0.mk hcy0
  have HRy1 := Aside0.mk hry1
  have HCy1 := Aside0.mk hcy1
  clear hrx0 hcx0 hrx1 hcx1 hry0 hcy0 hry1 hcy1
  have hu22 := Try.underlying22
  have hu29 := Try.underlying29
  have HB := Aside0.mk (Below.refl w.heap.size w)
  go_enter Try.func4, Try.ntmps4
  have hb : Below w.heap.size w (w.alloc (.cells #[.slice Ax0 lx0.length cx0, .slice Ax1 lx1.length cx1] 29)) := below_alloc (Below.refl _ _) _
  replace HB := Aside0.mk (below_step HB.out hb)
  replace HRx0 := Aside0.mk (Kd.C_below HRx0.out hb)
  replace HRx1 := Aside0.mk (Kd.C_below HRx1.out hb)
  replace HRy0 := Aside0.mk (Kd.C_below HRy0.out hb)
  replace HRy1 := Aside0.mk (Kd.C_below HRy1.out hb)
  clear hb
  have KX : Aside0 (Held (w.alloc (.cells #[.slice Ax0 lx0.length cx0, .slice Ax1 lx1.length cx1] 29)) (w.heap.size) (.slice Ax0 lx0.length cx0) (.slice Ax1 lx1.length cx1)) := ⟨Held.new _ _ _⟩
  have hb : Below (w.alloc (.cells #[.slice Ax0 lx0.length cx0, .slice Ax1 lx1.length cx1] 29)).heap.size (w.alloc (.cells #[.slice Ax0 lx0.length cx0, .slice Ax1 lx1.length cx1] 29)) ((w.alloc (.cells #[.slice Ax0 lx0.length cx0, .slice Ax1 lx1.length cx1] 29)).alloc (.cells #[.slice Ay0 ly0.length cy0, .slice Ay1 ly1.length cy1] 29)) := below_alloc (Below.refl _ _) _
  replace HB := Aside0.mk (below_step HB.out hb)
  replace HRx0 := Aside0.mk (Kd.C_below HRx0.out hb)
  replace HRx1 := Aside0.mk (Kd.C_below HRx1.out hb)
  replace HRy0 := Aside0.mk (Kd.C_below HRy0.out hb)
  replace HRy1 := Aside0.mk (Kd.C_below HRy1.out hb)
  replace KX := Aside0.mk (KX.out.below hb)
  clear hb
  have KY : Aside0 (Held ((w.alloc (.cells #[.slice Ax0 lx0.length cx0, .slice Ax1 lx1.length cx1] 29)).alloc (.cells #[.slice Ay0 ly0.length cy0, .slice Ay1 ly1.length cy1] 29)) (w.heap.size + 1) (.slice Ay0 ly0.length cy0) (.slice Ay1 ly1.length cy1)) := ⟨(Held.new _ _ _).at_ (alloc_size _ _)⟩
  have hX0 := KX.out.c0
  have hX1 := KX.out.c1
  have hY0 := KY.out.c0
  have hY1 := KY.out.c1
  go_wp2_with fail
  clear hX0 hX1 hY0 hY1
  generalize ((w.alloc (.cells #[.slice Ax0 lx0.length cx0, .slice Ax1 lx1.length cx1] 29)).alloc (.cells #[.slice Ay0 ly0.length cy0, .slice Ay1 ly1.length cy1] 29)) = w1 at *
  refine (over_any Ax0 cx0 lx0 Ax1 cx1 lx1 _ HRx0.out HCx0.out HRx1.out HCx1.out).mono ?_
  rintro e w2 ⟨rfl, hb⟩
  replace HB := Aside0.mk (below_step HB.out hb)
  replace HRx0 := Aside0.mk (Kd.C_below HRx0.out hb)
  replace HRx1 := Aside0.mk (Kd.C_below HRx1.out hb)
  replace HRy0 := Aside0.mk (Kd.C_below HRy0.out hb)
  replace HRy1 := Aside0.mk (Kd.C_below HRy1.out hb)
  replace KX := Aside0.mk (KX.out.below hb)
  replace KY := Aside0.mk (KY.out.below hb)
  clear hb
  cases hovx : overB lx0 lx1
  · have ovx := overB_false hovx
    have hY0 := KY.out.c0
    have hY1 := KY.out.c1
    go_wp2_with fail
    clear hY0 hY1
    refine (over_any Ay0 cy0 ly0 Ay1 cy1 ly1 _ HRy0.out HCy0.out HRy1.out HCy1.out).mono ?_
    rintro e w3 ⟨rfl, hb⟩
    replace HB := Aside0.mk (below_step HB.out hb)
    replace HRx0 := Aside0.mk (Kd.C_below HRx0.out hb)
    replace HRx1 := Aside0.mk (Kd.C_below HRx1.out hb)
    replace HRy0 := Aside0.mk (Kd.C_below HRy0.out hb)
    replace HRy1 := Aside0.mk (Kd.C_below HRy1.out hb)
    replace KX := Aside0.mk (KX.out.below hb)
    replace KY := Aside0.mk (KY.out.below hb)
    clear hb
    cases hovy : overB ly0 ly1
    · have ovy := overB_false hovy
      have hX0 := KX.out.c0
      have hX1 := KX.out.c1
      have hY0 := KY.out.c0
      have hY1 := KY.out.c1
      go_wp2_with fail
      clear hX0 hX1 hY0 hY1
      refine (And_any Ax0 cx0 lx0 Ax1 cx1 lx1 Ay0 cy0 ly0 Ay1 cy1 ly1 _ HRx0.out HCx0.out HRx1.out HCx1.out HRy0.out HCy0.out HRy1.out HCy1.out).mono ?_
      rintro e w4 ⟨v0, v1, rfl, ho0, ho1, hb⟩
      replace HB := Aside0.mk (below_step HB.out hb)
      replace HRx0 := Aside0.mk (Kd.C_below HRx0.out hb)
      replace HRx1 := Aside0.mk (Kd.C_below HRx1.out hb)
      replace HRy0 := Aside0.mk (Kd.C_below HRy0.out hb)
      replace HRy1 := Aside0.mk (Kd.C_below HRy1.out hb)
      replace KX := Aside0.mk (KX.out.below hb)
      replace KY := Aside0.mk (KY.out.below hb)
      clear hb
      obtain ⟨Lp0, hLp0⟩ : ∃ L, bothL (fun a b => a && b) lx0 lx1 ly0 ly1 lx0 ly0 = L := ⟨_, rfl⟩
      rw [hLp0] at ho0
      obtain ⟨Ap0, cp0, rfl, hcp0, hrp0⟩ := ho0.slice
      have HRp0 := Aside0.mk hrp0
      have HCp0 := Aside0.mk hcp0
      clear ho0 hrp0 hcp0
      obtain ⟨Lp1, hLp1⟩ : ∃ L, bothL (fun a b => a && b) lx0 lx1 ly0 ly1 lx1 ly1 = L := ⟨_, rfl⟩
      rw [hLp1] at ho1
      obtain ⟨Ap1, cp1, rfl, hcp1, hrp1⟩ := ho1.slice
      have HRp1 := Aside0.mk hrp1
      have HCp1 := Aside0.mk hcp1
      clear ho1 hrp1 hcp1
      have hb : Below w4.heap.size w4 (w4.alloc (.cells #[.slice Ap0 Lp0.length cp0, .slice Ap1 Lp1.length cp1] 29)) := below_alloc (Below.refl _ _) _
      replace HB := Aside0.mk (below_step HB.out hb)
      replace HRx0 := Aside0.mk (Kd.C_below HRx0.out hb)
      replace HRx1 := Aside0.mk (Kd.C_below HRx1.out hb)
      replace HRy0 := Aside0.mk (Kd.C_below HRy0.out hb)
      replace HRy1 := Aside0.mk (Kd.C_below HRy1.out hb)
      replace HRp0 := Aside0.mk (Kd.C_below HRp0.out hb)
      replace HRp1 := Aside0.mk (Kd.C_below HRp1.out hb)
      replace KX := Aside0.mk (KX.out.below hb)
      replace KY := Aside0.mk (KY.out.below hb)
      clear hb
      have KP : Aside0 (Held (w4.alloc (.cells #[.slice Ap0 Lp0.length cp0, .slice Ap1 Lp1.length cp1] 29)) (w4.heap.size) (.slice Ap0 Lp0.length cp0) (.slice Ap1 Lp1.length cp1)) := ⟨Held.new _ _ _⟩
      have hX0 := KX.out.c0
      have hX1 := KX.out.c1
      have hY0 := KY.out.c0
      have hY1 := KY.out.c1
      go_wp2_with fail
      clear hX0 hX1 hY0 hY1
      generalize (w4.alloc (.cells #[.slice Ap0 Lp0.length cp0, .slice Ap1 Lp1.length cp1] 29)) = w5 at *
      refine (AndR_any Ax0 cx0 lx0 Ax1 cx1 lx1 Ay0 cy0 ly0 Ay1 cy1 ly1 _ HRx0.out HCx0.out HRx1.out HCx1.out HRy0.out HCy0.out HRy1.out HCy1.out ovx.1 ovx.2 ovy.1 ovy.2).mono ?_
      rintro e w6 ⟨v0, v1, rfl, ho0, ho1, hb⟩
      replace HB := Aside0.mk (below_step HB.out hb)
      replace HRx0 := Aside0.mk (Kd.C_below HRx0.out hb)
      replace HRx1 := Aside0.mk (Kd.C_below HRx1.out hb)
      replace HRy0 := Aside0.mk (Kd.C_below HRy0.out hb)
      replace HRy1 := Aside0.mk (Kd.C_below HRy1.out hb)
      replace HRp0 := Aside0.mk (Kd.C_below HRp0.out hb)
      replace HRp1 := Aside0.mk (Kd.C_below HRp1.out hb)
      replace KX := Aside0.mk (KX.out.below hb)
      replace KY := Aside0.mk (KY.out.below hb)
      replace KP := Aside0.mk (KP.out.below hb)
      clear hb
      rw [hLp0] at ho0
      obtain ⟨Aq0, cq0, rfl, hcq0, hrq0⟩ := ho0.slice
      have HRq0 := Aside0.mk hrq0
      have HCq0 := Aside0.mk hcq0
      clear ho0 hrq0 hcq0
      rw [hLp1] at ho1
      obtain ⟨Aq1, cq1, rfl, hcq1, hrq1⟩ := ho1.slice
      have HRq1 := Aside0.mk hrq1
      have HCq1 := Aside0.mk hcq1
      clear ho1 hrq1 hcq1
      have hb : Below w6.heap.size w6 (w6.alloc (.cells #[.slice Aq0 Lp0.length cq0, .slice Aq1 Lp1.length cq1] 29)) := below_alloc (Below.refl _ _) _
      replace HB := Aside0.mk (below_step HB.out hb)
      replace HRx0 := Aside0.mk (Kd.C_below HRx0.out hb)
      replace HRx1 := Aside0.mk (Kd.C_below HRx1.out hb)
      replace HRy0 := Aside0.mk (Kd.C_below HRy0.out hb)
      replace HRy1 := Aside0.mk (Kd.C_below HRy1.out hb)
      replace HRp0 := Aside0.mk (Kd.C_below HRp0.out hb)
      replace HRp1 := Aside0.mk (Kd.C_below HRp1.out hb)
      replace HRq0 := Aside0.mk (Kd.C_below HRq0.out hb)
      replace HRq1 := Aside0.mk (Kd.C_below HRq1.out hb)
      replace KX := Aside0.mk (KX.out.below hb)
      replace KY := Aside0.mk (KY.out.below hb)
      replace KP := Aside0.mk (KP.out.below hb)
      clear hb
      have KQ : Aside0 (Held (w6.alloc (.cells #[.slice Aq0 Lp0.length cq0, .slice Aq1 Lp1.length cq1] 29)) (w6.heap.size) (.slice Aq0 Lp0.length cq0) (.slice Aq1 Lp1.length cq1)) := ⟨Held.new _ _ _⟩
      have hX0 := KX.out.c0
      have hX1 := KX.out.c1
      have hY0 := KY.out.c0
      have hY1 := KY.out.c1
      go_wp2_with fail
      clear hX0 hX1 hY0 hY1
      generalize (w6.alloc (.cells #[.slice Aq0 Lp0.length cq0, .slice Aq1 Lp1.length cq1] 29)) = w7 at *
      refine (Or_any Ax0 cx0 lx0 Ax1 cx1 lx1 Ay0 cy0 ly0 Ay1 cy1 ly1 _ HRx0.out HCx0.out HRx1.out HCx1.out HRy0.out HCy0.out HRy1.out HCy1.out).mono ?_
      rintro e w8 ⟨v0, v1, rfl, ho0, ho1, hb⟩
      replace HB := Aside0.mk (below_step HB.out hb)
      replace HRx0 := Aside0.mk (Kd.C_below HRx0.out hb)
      replace HRx1 := Aside0.mk (Kd.C_below HRx1.out hb)
      replace HRy0 := Aside0.mk (Kd.C_below HRy0.out hb)
      replace HRy1 := Aside0.mk (Kd.C_below HRy1.out hb)
      replace HRp0 := Aside0.mk (Kd.C_below HRp0.out hb)
      replace HRp1 := Aside0.mk (Kd.C_below HRp1.out hb)
      replace HRq0 := Aside0.mk (Kd.C_below HRq0.out hb)
      replace HRq1 := Aside0.mk (Kd.C_below HRq1.out hb)
      replace KX := Aside0.mk (KX.out.below hb)
      replace KY := Aside0.mk (KY.out.below hb)
      replace KP := Aside0.mk (KP.out.below hb)
      replace KQ := Aside0.mk (KQ.out.below hb)
      clear hb
      obtain ⟨Lr0, hLr0⟩ : ∃ L, bothL (fun a b => a || b) lx0 lx1 ly0 ly1 lx0 ly0 = L := ⟨_, rfl⟩
      rw [hLr0] at ho0
      obtain ⟨Ar0, cr0, rfl, hcr0, hrr0⟩ := ho0.slice
      have HRr0 := Aside0.mk hrr0
      have HCr0 := Aside0.mk hcr0
      clear ho0 hrr0 hcr0
      obtain ⟨Lr1, hLr1⟩ : ∃ L, bothL (fun a b => a || b) lx0 lx1 ly0 ly1 lx1 ly1 = L := ⟨_, rfl⟩
      rw [hLr1] at ho1
      obtain ⟨Ar1, cr1, rfl, hcr1, hrr1⟩ := ho1.slice
      have HRr1 := Aside0.mk hrr1
      have HCr1 := Aside0.mk hcr1
      clear ho1 hrr1 hcr1
      have hb : Below w8.heap.size w8 (w8.alloc (.cells #[.slice Ar0 Lr0.length cr0, .slice Ar1 Lr1.length cr1] 29)) := below_alloc (Below.refl _ _) _
      replace HB := Aside0.mk (below_step HB.out hb)
      replace HRx0 := Aside0.mk (Kd.C_below HRx0.out hb)
      replace HRx1 := Aside0.mk (Kd.C_below HRx1.out hb)
      replace HRy0 := Aside0.mk (Kd.C_below HRy0.out hb)
      replace HRy1 := Aside0.mk (Kd.C_below HRy1.out hb)
      replace HRp0 := Aside0.mk (Kd.C_below HRp0.out hb)
      replace HRp1 := Aside0.mk (Kd.C_below HRp1.out hb)
      replace HRq0 := Aside0.mk (Kd.C_below HRq0.out hb)
      replace HRq1 := Aside0.mk (Kd.C_below HRq1.out hb)
      replace HRr0 := Aside0.mk (Kd.C_below HRr0.out hb)
      replace HRr1 := Aside0.mk (Kd.C_below HRr1.out hb)
      replace KX := Aside0.mk (KX.out.below hb)
      replace KY := Aside0.mk (KY.out.below hb)
      replace KP := Aside0.mk (KP.out.below hb)
      replace KQ := Aside0.mk (KQ.out.below hb)
      clear hb
      have KR : Aside0 (Held (w8.alloc (.cells #[.slice Ar0 Lr0.length cr0, .slice Ar1 Lr1.length cr1] 29)) (w8.heap.size) (.slice Ar0 Lr0.length cr0) (.slice Ar1 Lr1.length cr1)) := ⟨Held.new _ _ _⟩
      have hX0 := KX.out.c0
      have hX1 := KX.out.c1
      have hY0 := KY.out.c0
      have hY1 := KY.out.c1
      go_wp2_with fail
      clear hX0 hX1 hY0 hY1
      generalize (w8.alloc (.cells #[.slice Ar0 Lr0.length cr0, .slice Ar1 Lr1.length cr1] 29)) = w9 at *
      refine (OrR_any Ax0 cx0 lx0 Ax1 cx1 lx1 Ay0 cy0 ly0 Ay1 cy1 ly1 _ HRx0.out HCx0.out HRx1.out HCx1.out HRy0.out HCy0.out HRy1.out HCy1.out ovx.1 ovx.2 ovy.1 ovy.2).mono ?_
      rintro e w10 ⟨v0, v1, rfl, ho0, ho1, hb⟩
      replace HB := Aside0.mk (below_step HB.out hb)
      replace HRx0 := Aside0.mk (Kd.C_below HRx0.out hb)
      replace HRx1 := Aside0.mk (Kd.C_below HRx1.out hb)
      replace HRy0 := Aside0.mk (Kd.C_below HRy0.out hb)
      replace HRy1 := Aside0.mk (Kd.C_below HRy1.out hb)
      replace HRp0 := Aside0.mk (Kd.C_below HRp0.out hb)
      replace HRp1 := Aside0.mk (Kd.C_below HRp1.out hb)
      replace HRq0 := Aside0.mk (Kd.C_below HRq0.out hb)
      replace HRq1 := Aside0.mk (Kd.C_below HRq1.out hb)
      replace HRr0 := Aside0.mk (Kd.C_below HRr0.out hb)
      replace HRr1 := Aside0.mk (Kd.C_below HRr1.out hb)
      replace KX := Aside0.mk (KX.out.below hb)
      replace KY := Aside0.mk (KY.out.below hb)
      replace KP := Aside0.mk (KP.out.below hb)
      replace KQ := Aside0.mk (KQ.out.below hb)
      replace KR := Aside0.mk (KR.out.below hb)
      clear hb
      rw [hLr0] at ho0
      obtain ⟨As0, cs0, rfl, hcs0, hrs0⟩ := ho0.slice
      have HRs0 := Aside0.mk hrs0
      have HCs0 := Aside0.mk hcs0
      clear ho0 hrs0 hcs0
      rw [hLr1] at ho1
      obtain ⟨As1, cs1, rfl, hcs1, hrs1⟩ := ho1.slice
      have HRs1 := Aside0.mk hrs1
      have HCs1 := Aside0.mk hcs1
      clear ho1 hrs1 hcs1
      have hb : Below w10.heap.size w10 (w10.alloc (.cells #[.slice As0 Lr0.length cs0, .slice As1 Lr1.length cs1] 29)) := below_alloc (Below.refl _ _) _
      replace HB := Aside0.mk (below_step HB.out hb)
      replace HRx0 := Aside0.mk (Kd.C_below HRx0.out hb)
      replace HRx1 := Aside0.mk (Kd.C_below HRx1.out hb)
      replace HRy0 := Aside0.mk (Kd.C_below HRy0.out hb)
      replace HRy1 := Aside0.mk (Kd.C_below HRy1.out hb)
      replace HRp0 := Aside0.mk (Kd.C_below HRp0.out hb)
      replace HRp1 := Aside0.mk (Kd.C_below HRp1.out hb)
      replace HRq0 := Aside0.mk (Kd.C_below HRq0.out hb)
      replace HRq1 := Aside0.mk (Kd.C_below HRq1.out hb)
      replace HRr0 := Aside0.mk (Kd.C_below HRr0.out hb)
      replace HRr1 := Aside0.mk (Kd.C_below HRr1.out hb)
      replace HRs0 := Aside0.mk (Kd.C_below HRs0.out hb)
      replace HRs1 := Aside0.mk (Kd.C_below HRs1.out hb)
      replace KX := Aside0.mk (KX.out.below hb)
      replace KY := Aside0.mk (KY.out.below hb)
      replace KP := Aside0.mk (KP.out.below hb)
      replace KQ := Aside0.mk (KQ.out.below hb)
      replace KR := Aside0.mk (KR.out.below hb)
      clear hb
      have KS : Aside0 (Held (w10.alloc (.cells #[.slice As0 Lr0.length cs0, .slice As1 Lr1.length cs1] 29)) (w10.heap.size) (.slice As0 Lr0.length cs0) (.slice As1 Lr1.length cs1)) := ⟨Held.new _ _ _⟩
      go_wp2_with fail
      generalize (w10.alloc (.cells #[.slice As0 Lr0.length cs0, .slice As1 Lr1.length cs1] 29)) = w11 at *
      refine wp_region_segs (by kernel_rfl) [(false, [0, 1, 2, 3, 4, 5, 6, 7, 8, 9, 10, 11, 12, 13, 14, 15, 16, 17, 18, 19, 21]), (true, [20]), (false, [22, 23, 24, 25, 26, 27, 28])] (by decide) (by kernel_rfl) ?_
      simp only [wpSegs, pickOps, List.getElem?_toArray, List.getElem?_cons_succ, List.getElem?_cons_zero, Bool.false_eq_true, false_implies, true_and, forall_const]
      have hP0 := KP.out.c0
      have hP1 := KP.out.c1
      have hQ0 := KQ.out.c0
      have hQ1 := KQ.out.c1
      go_wp2_with fail
      clear hP0 hP1 hQ0 hQ1
      refine (same_any Ap0 cp0 Lp0 Ap1 cp1 Lp1 Aq0 cq0 Lp0 Aq1 cq1 Lp1 _ (Kd.C_drew HRp0.out) HCp0.out (Kd.C_drew HRp1.out) HCp1.out (Kd.C_drew HRq0.out) HCq0.out (Kd.C_drew HRq1.out) HCq1.out).mono ?_
      rintro e w12 ⟨rfl, hb⟩
      replace hb := below_step (below_drew1 (Below.refl w11.heap.size w11)) hb
      replace HB := Aside0.mk (below_step HB.out hb)
      replace HRx0 := Aside0.mk (Kd.C_below HRx0.out hb)
      replace HRx1 := Aside0.mk (Kd.C_below HRx1.out hb)
      replace HRy0 := Aside0.mk (Kd.C_below HRy0.out hb)
      replace HRy1 := Aside0.mk (Kd.C_below HRy1.out hb)
      replace HRp0 := Aside0.mk (Kd.C_below HRp0.out hb)
      replace HRp1 := Aside0.mk (Kd.C_below HRp1.out hb)
      replace HRq0 := Aside0.mk (Kd.C_below HRq0.out hb)
      replace HRq1 := Aside0.mk (Kd.C_below HRq1.out hb)
      replace HRr0 := Aside0.mk (Kd.C_below HRr0.out hb)
      replace HRr1 := Aside0.mk (Kd.C_below HRr1.out hb)
      replace HRs0 := Aside0.mk (Kd.C_below HRs0.out hb)
      replace HRs1 := Aside0.mk (Kd.C_below HRs1.out hb)
      replace KX := Aside0.mk (KX.out.below hb)
      replace KY := Aside0.mk (KY.out.below hb)
      replace KP := Aside0.mk (KP.out.below hb)
      replace KQ := Aside0.mk (KQ.out.below hb)
      replace KR := Aside0.mk (KR.out.below hb)
      replace KS := Aside0.mk (KS.out.below hb)
      clear hb
      simp only [decide_true, Bool.and_self]
      have hR0 := KR.out.c0
      have hR1 := KR.out.c1
      have hS0 := KS.out.c0
      have hS1 := KS.out.c1
      go_wp2_with fail
      clear hR0 hR1 hS0 hS1
      refine (same_any Ar0 cr0 Lr0 Ar1 cr1 Lr1 As0 cs0 Lr0 As1 cs1 Lr1 _ HRr0.out HCr0.out HRr1.out HCr1.out HRs0.out HCs0.out HRs1.out HCs1.out).mono ?_
      rintro e w13 ⟨rfl, hb⟩
      replace HB := Aside0.mk (below_step HB.out hb)
      replace HRx0 := Aside0.mk (Kd.C_below HRx0.out hb)
      replace HRx1 := Aside0.mk (Kd.C_below HRx1.out hb)
      replace HRy0 := Aside0.mk (Kd.C_below HRy0.out hb)
      replace HRy1 := Aside0.mk (Kd.C_below HRy1.out hb)
      replace HRp0 := Aside0.mk (Kd.C_below HRp0.out hb)
      replace HRp1 := Aside0.mk (Kd.C_below HRp1.out hb)
      replace HRq0 := Aside0.mk (Kd.C_below HRq0.out hb)
      replace HRq1 := Aside0.mk (Kd.C_below HRq1.out hb)
      replace HRr0 := Aside0.mk (Kd.C_below HRr0.out hb)
      replace HRr1 := Aside0.mk (Kd.C_below HRr1.out hb)
      replace HRs0 := Aside0.mk (Kd.C_below HRs0.out hb)
      replace HRs1 := Aside0.mk (Kd.C_below HRs1.out hb)
      replace KX := Aside0.mk (KX.out.below hb)
      replace KY := Aside0.mk (KY.out.below hb)
      replace KP := Aside0.mk (KP.out.below hb)
      replace KQ := Aside0.mk (KQ.out.below hb)
      replace KR := Aside0.mk (KR.out.below hb)
      replace KS := Aside0.mk (KS.out.below hb)
      clear hb
      simp only [decide_true, Bool.and_self]
      have hX0 := KX.out.c0
      have hX1 := KX.out.c1
      go_wp2_with fail
      clear hX0 hX1
      refine (Validate_any Ax0 cx0 lx0 Ax1 cx1 lx1 _ HRx0.out HCx0.out HRx1.out HCx1.out).mono ?_
      rintro e w14 ⟨rfl, hb⟩
      replace HB := Aside0.mk (below_step HB.out hb)
      replace HRx0 := Aside0.mk (Kd.C_below HRx0.out hb)
      replace HRx1 := Aside0.mk (Kd.C_below HRx1.out hb)
      replace HRy0 := Aside0.mk (Kd.C_below HRy0.out hb)
      replace HRy1 := Aside0.mk (Kd.C_below HRy1.out hb)
      replace HRp0 := Aside0.mk (Kd.C_below HRp0.out hb)
      replace HRp1 := Aside0.mk (Kd.C_below HRp1.out hb)
      replace HRq0 := Aside0.mk (Kd.C_below HRq0.out hb)
      replace HRq1 := Aside0.mk (Kd.C_below HRq1.out hb)
      replace HRr0 := Aside0.mk (Kd.C_below HRr0.out hb)
      replace HRr1 := Aside0.mk (Kd.C_below HRr1.out hb)
      replace HRs0 := Aside0.mk (Kd.C_below HRs0.out hb)
      replace HRs1 := Aside0.mk (Kd.C_below HRs1.out hb)
      replace KX := Aside0.mk (KX.out.below hb)
      replace KY := Aside0.mk (KY.out.below hb)
      replace KP := Aside0.mk (KP.out.below hb)
      replace KQ := Aside0.mk (KQ.out.below hb)
      replace KR := Aside0.mk (KR.out.below hb)
      replace KS := Aside0.mk (KS.out.below hb)
      have HX := Aside0.mk (ext_of_below hb)
      clear hb
      go_wp2_with fail
      refine ⟨HX.out, ?_⟩
      clear HX
      have hX0 := KX.out.c0
      have hX1 := KX.out.c1
      go_wp2_with fail
      clear hX0 hX1
      refine (ValidateR_any Ax0 cx0 lx0 Ax1 cx1 lx1 _ HRx0.out HCx0.out HRx1.out HCx1.out ovx.1 ovx.2).mono ?_
      rintro e w15 ⟨rfl, hb⟩
      replace HB := Aside0.mk (below_step HB.out hb)
      replace HRx0 := Aside0.mk (Kd.C_below HRx0.out hb)
      replace HRx1 := Aside0.mk (Kd.C_below HRx1.out hb)
      replace HRy0 := Aside0.mk (Kd.C_below HRy0.out hb)
      replace HRy1 := Aside0.mk (Kd.C_below HRy1.out hb)
      replace HRp0 := Aside0.mk (Kd.C_below HRp0.out hb)
      replace HRp1 := Aside0.mk (Kd.C_below HRp1.out hb)
      replace HRq0 := Aside0.mk (Kd.C_below HRq0.out hb)
      replace HRq1 := Aside0.mk (Kd.C_below HRq1.out hb)
      replace HRr0 := Aside0.mk (Kd.C_below HRr0.out hb)
      replace HRr1 := Aside0.mk (Kd.C_below HRr1.out hb)
      replace HRs0 := Aside0.mk (Kd.C_below HRs0.out hb)
      replace HRs1 := Aside0.mk (Kd.C_below HRs1.out hb)
      replace KX := Aside0.mk (KX.out.below hb)
      replace KY := Aside0.mk (KY.out.below hb)
      replace KP := Aside0.mk (KP.out.below hb)
      replace KQ := Aside0.mk (KQ.out.below hb)
      replace KR := Aside0.mk (KR.out.below hb)
      replace KS := Aside0.mk (KS.out.below hb)
      clear hb
      go_wp2_with fail
      refine (known_any _).mono ?_
      rintro e w16 ⟨rfl, hb⟩
      replace HB := Aside0.mk (below_step HB.out hb)
      replace HRx0 := Aside0.mk (Kd.C_below HRx0.out hb)
      replace HRx1 := Aside0.mk (Kd.C_below HRx1.out hb)
      replace HRy0 := Aside0.mk (Kd.C_below HRy0.out hb)
      replace HRy1 := Aside0.mk (Kd.C_below HRy1.out hb)
      replace HRp0 := Aside0.mk (Kd.C_below HRp0.out hb)
      replace HRp1 := Aside0.mk (Kd.C_below HRp1.out hb)
      replace HRq0 := Aside0.mk (Kd.C_below HRq0.out hb)
      replace HRq1 := Aside0.mk (Kd.C_below HRq1.out hb)
      replace HRr0 := Aside0.mk (Kd.C_below HRr0.out hb)
      replace HRr1 := Aside0.mk (Kd.C_below HRr1.out hb)
      replace HRs0 := Aside0.mk (Kd.C_below HRs0.out hb)
      replace HRs1 := Aside0.mk (Kd.C_below HRs1.out hb)
      replace KX := Aside0.mk (KX.out.below hb)
      replace KY := Aside0.mk (KY.out.below hb)
      replace KP := Aside0.mk (KP.out.below hb)
      replace KQ := Aside0.mk (KQ.out.below hb)
      replace KR := Aside0.mk (KR.out.below hb)
      replace KS := Aside0.mk (KS.out.below hb)
      clear hb
      go_wp2_with fail
      refine ⟨rfl, by kernel_rfl, ?_⟩
      go_wp2_with fail
      go_ret
      exact ⟨rfl, HB.out⟩
    ·
      go_wp2_with fail
      refine (known_any _).mono ?_
      rintro e w4 ⟨rfl, hb⟩
      replace HB := Aside0.mk (below_step HB.out hb)
      replace HRx0 := Aside0.mk (Kd.C_below HRx0.out hb)
      replace HRx1 := Aside0.mk (Kd.C_below HRx1.out hb)
      replace HRy0 := Aside0.mk (Kd.C_below HRy0.out hb)
      replace HRy1 := Aside0.mk (Kd.C_below HRy1.out hb)
      replace KX := Aside0.mk (KX.out.below hb)
      replace KY := Aside0.mk (KY.out.below hb)
      clear hb
      go_wp2_with fail
      go_ret
      exact ⟨rfl, HB.out⟩
  ·
    go_wp2_with fail
    refine (known_any _).mono ?_
    rintro e w3 ⟨rfl, hb⟩
    replace HB := Aside0.mk (below_step HB.out hb)
    replace HRx0 := Aside0.mk (Kd.C_below HRx0.out hb)
    replace HRx1 := Aside0.mk (Kd.C_below HRx1.out hb)
    replace HRy0 := Aside0.mk (Kd.C_below HRy0.out hb)
    replace HRy1 := Aside0.mk (Kd.C_below HRy1.out hb)
    replace KX := Aside0.mk (KX.out.below hb)
    replace KY := Aside0.mk (KY.out.below hb)
    clear hb
    go_wp2_with fail
    go_ret
    exact ⟨rfl, HB.out⟩
end Go.Proofs.Ytpbdlkbiiglkdaa

/- The complement of an intersection is the union of the complements; in plain Lean. -/
set_option linter.unusedVariables false
set_option linter.unusedSimpArgs false
namespace Go.Proofs.Ytpbdlkbiiglkdaa
open Go.RowKit Go.Proofs.YtpbdlkbiiglkdaaW.PrintWords Go.Proofs.YtpbdlkbiiglkdaaW.PrintLast Go.Proofs.YtpbdlkbiiglkdaaW.PrintMore Go.Proofs.Cab
theorem setB_of : ∀ (n : Int) (l : List Int), l.Pairwise (· < ·) → (∀ x ∈ l, 1 ≤ x ∧ x ≤ n) → setB n l = true := by
  have key : ∀ (n : Int) (l : List Int) (p : Int), l.Pairwise (· < ·) → (∀ x ∈ l, p < x ∧ x ≤ n) → setFrom n p l = true := by
    intro n l
    induction l with
    | nil => exact fun _ _ _ => rfl
    | cons x l ih =>
      intro p hp hx
      obtain ⟨h1, h2⟩ := List.pairwise_cons.1 hp
      simp only [setFrom, Bool.and_eq_true, decide_eq_true_eq]
      exact ⟨(hx x List.mem_cons_self).1, (hx x List.mem_cons_self).2, ih x h2 fun y hy => ⟨h1 y hy, (hx y (List.mem_cons_of_mem _ hy)).2⟩⟩
  exact fun n l hp hx => key n l 0 hp fun x hx' => by have := hx x hx'; omega
theorem valE_iff {s m : List Int} : valE s m = 0 ↔ setB 300 s = true ∧ setB 300 m = true ∧ ∀ x ∈ s, x ∈ m := by
  constructor
  · intro h
    obtain ⟨a, b, c⟩ := valE_sets h
    rw [lessF_filter (set_asc a) (set_asc b), filter_mem_nil] at c
    exact ⟨a, b, c⟩
  · rintro ⟨a, b, c⟩
    unfold valE
    rw [if_pos ⟨a, b, by rw [lessF_filter (set_asc a) (set_asc b), filter_mem_nil]; exact c⟩]
theorem notE_iff {s m : List Int} {n : Int} : notE s m n = 0 ↔ valE s m = 0 ∧ (0 ≤ n ∧ n ≤ 300) ∧ setB n m = true := by
  unfold notE
  by_cases h : valE s m = 0
  · rw [if_pos h]
    constructor
    · intro e
      split at e
      · rename_i hc
        exact ⟨h, countB_range hc.1, hc.2⟩
      · cases e
    · rintro ⟨_, c, d⟩
      rw [if_pos ⟨by unfold countB; simp [c], d⟩]
  · rw [if_neg h]
    exact ⟨fun e => absurd e h, fun e => absurd e.1 h⟩
theorem lessF_spec {l g : List Int} (hl : l.Pairwise (· < ·)) (hg : g.Pairwise (· < ·)) : (lessF l g).Pairwise (· < ·) ∧ ∀ z, z ∈ lessF l g ↔ z ∈ l ∧ z ∉ g := by
  rw [lessF_filter hl hg]
  exact ⟨filter_asc _ hl, fun z => by simp⟩
theorem notL_spec {s m l : List Int} {n : Int} (h : notE s m n = 0) (hl : l.Pairwise (· < ·)) : (notL s m n l).Pairwise (· < ·) ∧ ∀ z, z ∈ notL s m n l ↔ (1 ≤ z ∧ z ≤ n) ∧ z ∉ l := by
  unfold notL
  rw [if_pos h]
  obtain ⟨a, b⟩ := lessF_spec (upTo_asc n) hl
  exact ⟨a, fun z => by rw [b, upTo_mem]⟩
theorem bothL_spec (f : Bool → Bool → Bool) (hf : f false false = false) {s m t u a b : List Int} (h1 : valE s m = 0) (h2 : valE t u = 0) (ha : a.Pairwise (· < ·)) (hb : b.Pairwise (· < ·)) :
    (bothL f s m t u a b).Pairwise (· < ·) ∧ ∀ z, z ∈ bothL f s m t u a b ↔ f (decide (z ∈ a)) (decide (z ∈ b)) = true := by
  unfold bothL
  rw [if_pos ⟨h1, h2⟩]
  obtain ⟨x, y⟩ := joinF_spec f hf _ a b rfl ha hb
  exact ⟨y, x⟩
theorem morgan_law {x0 x1 y0 y1 La0 La1 Lb0 Lb1 Lp0 Lp1 Lc0 Lc1 Ld0 Ld1 Le0 Le1 : List Int} {n : Int} (hE : notE x0 x1 n = 0) (hF : notE y0 y1 n = 0)
    (hLa0 : notL x0 x1 n x1 = La0) (hLa1 : notL x0 x1 n x0 = La1) (hLb0 : notL y0 y1 n y1 = Lb0) (hLb1 : notL y0 y1 n y0 = Lb1)
    (hLp0 : bothL (fun a b => a && b) x0 x1 y0 y1 x0 y0 = Lp0) (hLp1 : bothL (fun a b => a && b) x0 x1 y0 y1 x1 y1 = Lp1)
    (hLc0 : notL Lp0 Lp1 n Lp1 = Lc0) (hLc1 : notL Lp0 Lp1 n Lp0 = Lc1)
    (hLd0 : bothL (fun a b => a || b) La0 La1 Lb0 Lb1 La0 Lb0 = Ld0) (hLd1 : bothL (fun a b => a || b) La0 La1 Lb0 Lb1 La1 Lb1 = Ld1)
    (hLe0 : notL La0 La1 n La1 = Le0) (hLe1 : notL La0 La1 n La0 = Le1) : Lc0 = Ld0 ∧ Lc1 = Ld1 ∧ Le0 = x0 ∧ Le1 = x1 := by
  obtain ⟨ex, hn, sx⟩ := notE_iff.1 hE
  obtain ⟨ey, _, sy⟩ := notE_iff.1 hF
  obtain ⟨ax0, ax1, sub1⟩ := valE_iff.1 ex
  obtain ⟨ay0, ay1, sub2⟩ := valE_iff.1 ey
  obtain ⟨pa0, ma0⟩ := notL_spec hE (set_asc ax1)
  obtain ⟨pa1, ma1⟩ := notL_spec hE (set_asc ax0)
  obtain ⟨pb0, mb0⟩ := notL_spec hF (set_asc ay1)
  obtain ⟨pb1, mb1⟩ := notL_spec hF (set_asc ay0)
  rw [hLa0] at pa0 ma0
  rw [hLa1] at pa1 ma1
  rw [hLb0] at pb0 mb0
  rw [hLb1] at pb1 mb1
  obtain ⟨pp0, mp0⟩ := bothL_spec (fun a b => a && b) rfl ex ey (set_asc ax0) (set_asc ay0)
  obtain ⟨pp1, mp1⟩ := bothL_spec (fun a b => a && b) rfl ex ey (set_asc ax1) (set_asc ay1)
  rw [hLp0] at pp0 mp0
  rw [hLp1] at pp1 mp1
  simp only [Bool.and_eq_true, decide_eq_true_eq] at mp0 mp1
  have hx1 := set_mem sx
  have hy1 := set_mem sy
  have vp : valE Lp0 Lp1 = 0 := valE_iff.2 ⟨setB_of _ _ pp0 fun z hz => by have := set_mem ax0 z ((mp0 z).1 hz).1; omega, setB_of _ _ pp1 fun z hz => by have := set_mem ax1 z ((mp1 z).1 hz).1; omega,
    fun z hz => (mp1 z).2 ⟨sub1 z ((mp0 z).1 hz).1, sub2 z ((mp0 z).1 hz).2⟩⟩
  have eP : notE Lp0 Lp1 n = 0 := notE_iff.2 ⟨vp, hn, setB_of _ _ pp1 fun z hz => hx1 z ((mp1 z).1 hz).1⟩
  obtain ⟨pc0, mc0⟩ := notL_spec eP pp1
  obtain ⟨pc1, mc1⟩ := notL_spec eP pp0
  rw [hLc0] at pc0 mc0
  rw [hLc1] at pc1 mc1
  have va : valE La0 La1 = 0 := valE_iff.2 ⟨setB_of _ _ pa0 fun z hz => by have := (ma0 z).1 hz; omega, setB_of _ _ pa1 fun z hz => by have := (ma1 z).1 hz; omega,
    fun z hz => (ma1 z).2 ⟨((ma0 z).1 hz).1, fun e => ((ma0 z).1 hz).2 (sub1 z e)⟩⟩
  have vb : valE Lb0 Lb1 = 0 := valE_iff.2 ⟨setB_of _ _ pb0 fun z hz => by have := (mb0 z).1 hz; omega, setB_of _ _ pb1 fun z hz => by have := (mb1 z).1 hz; omega,
    fun z hz => (mb1 z).2 ⟨((mb0 z).1 hz).1, fun e => ((mb0 z).1 hz).2 (sub2 z e)⟩⟩
  obtain ⟨pd0, md0⟩ := bothL_spec (fun a b => a || b) rfl va vb pa0 pb0
  obtain ⟨pd1, md1⟩ := bothL_spec (fun a b => a || b) rfl va vb pa1 pb1
  rw [hLd0] at pd0 md0
  rw [hLd1] at pd1 md1
  simp only [Bool.or_eq_true, decide_eq_true_eq] at md0 md1
  have eA : notE La0 La1 n = 0 := notE_iff.2 ⟨va, hn, setB_of _ _ pa1 fun z hz => ((ma1 z).1 hz).1⟩
  obtain ⟨pe0, me0⟩ := notL_spec eA pa1
  obtain ⟨pe1, me1⟩ := notL_spec eA pa0
  rw [hLe0] at pe0 me0
  rw [hLe1] at pe1 me1
  refine ⟨sorted_ext pc0 pd0 fun z => ?_, sorted_ext pc1 pd1 fun z => ?_, sorted_ext pe0 (set_asc ax0) fun z => ?_, sorted_ext pe1 (set_asc ax1) fun z => ?_⟩
  · rw [mc0, md0, ma0, mb0, mp1]
    by_cases a : z ∈ x1 <;> by_cases b : z ∈ y1 <;> simp [a, b]
  · rw [mc1, md1, ma1, mb1, mp0]
    by_cases a : z ∈ x0 <;> by_cases b : z ∈ y0 <;> simp [a, b]
  · rw [me0, ma1]
    constructor
    · rintro ⟨a, b⟩
      exact Classical.byContradiction fun c => b ⟨a, c⟩
    · intro a
      exact ⟨hx1 z (sub1 z a), fun b => b.2 a⟩
  · rw [me1, ma0]
    constructor
    · rintro ⟨a, b⟩
      exact Classical.byContradiction fun c => b ⟨a, c⟩
    · intro a
      exact ⟨hx1 z a, fun b => b.2 a⟩
end Go.Proofs.Ytpbdlkbiiglkdaa

/- Doubt and True by contract. -/
set_option linter.unusedVariables false
set_option linter.unusedSimpArgs false
namespace Go.Proofs.Ytpbdlkbiiglkdaa
open Go.RowKit Go.Proofs.YtpbdlkbiiglkdaaW.PrintWords Go.Proofs.YtpbdlkbiiglkdaaW.PrintLast Go.Proofs.YtpbdlkbiiglkdaaW.PrintMore Go.Proofs.Cab
theorem isSetB_any (A0 : Option Addr) (c0 : Nat) (l0 : List Int) (n : Int) (w : World) (hr0 : Kd.C (Kd.int .i64) w A0 l0.length l0) (hc0 : l0.length ≤ c0) :
    Calls Try.prog 47 #[.slice A0 l0.length c0, .int .i64 n] w fun e w' => e = .returned (.bool (setB n l0)) ∧ Below w.heap.size w w' :=
  (isSet_any A0 c0 l0 n w hr0 hc0).mono fun e w' ⟨he, m, hm⟩ => ⟨he, hm ▸ pw_below_drewN (Below.refl _ _) m⟩
set_option maxHeartbeats 4000000 in
set_option maxRecDepth 100000 in
theorem Doubt_any (Ax0 : Option Addr) (cx0 : Nat) (lx0 : List Int) (Ax1 : Option Addr) (cx1 : Nat) (lx1 : List Int) (w : World) (hrx0 : Kd.C (Kd.int .i64) w Ax0 lx0.length lx0) (hcx0 : lx0.length ≤ cx0) (hrx1 : Kd.C (Kd.int .i64) w Ax1 lx1.length lx1) (hcx1 : lx1.length ≤ cx1) :
    Calls Try.prog 35 #[.agg #[.slice Ax0 lx0.length cx0, .slice Ax1 lx1.length cx1]] w fun e w' => ∃ v : Value, e = .returned (.tuple #[v, .int .i64 (valE lx0 lx1)]) ∧ Own w' w.heap.size v (doubtL lx0 lx1) ∧ Below w.heap.size w w' := by
  have HRx0 := Aside0.mk hrx0
  have HCx0 := Aside0.mk hcx0
  have HRx1 := Aside0.mk hrx1
  have HCx1 := Aside0.mk hcx1
  clear hrx0 hcx0 hrx1 hcx1
  have hu22 := Try.underlying22
  have hu29 := Try.underlying29
  have HB := Aside0.mk (Below.refl w.heap.size w)
  go_enter Try.func35, Try.ntmps35
  obtain ⟨w1, hW1⟩ : ∃ x, w.alloc (.cells #[.slice Ax0 lx0.length cx0, .slice Ax1 lx1.length cx1] 29) = x := ⟨_, rfl⟩
  have hb : Below w.heap.size w w1 := by rw [← hW1]; exact below_alloc (Below.refl _ _) _
  replace HB := Aside0.mk (below_step HB.out hb)
  replace HRx0 := Aside0.mk (Kd.C_below HRx0.out hb)
  replace HRx1 := Aside0.mk (Kd.C_below HRx1.out hb)
  clear hb
  have KX : Aside0 (Held w1 (w.heap.size) (.slice Ax0 lx0.length cx0) (.slice Ax1 lx1.length cx1)) := ⟨by rw [← hW1]; exact Held.new _ _ _⟩
  have hX0 := KX.out.c0
  rw [← hW1] at hX0
  have hX1 := KX.out.c1
  rw [← hW1] at hX1
  have AhW1 := Aside0.mk hW1
  clear hW1
  go_wp2_with fail
  clear hX0 hX1
  rw [AhW1.out]
  clear AhW1
  refine (Validate_any Ax0 cx0 lx0 Ax1 cx1 lx1 _ HRx0.out HCx0.out HRx1.out HCx1.out).mono ?_
  rintro e w2 ⟨rfl, hb⟩
  replace HB := Aside0.mk (below_step HB.out hb)
  replace HRx0 := Aside0.mk (Kd.C_below HRx0.out hb)
  replace HRx1 := Aside0.mk (Kd.C_below HRx1.out hb)
  replace KX := Aside0.mk (KX.out.below hb)
  clear hb
  by_cases hv : valE lx0 lx1 = 0
  ·
    have hv1 : (valE lx0 lx1 == 0) = true := by simpa using hv
    have hv2 : (valE lx0 lx1 != 0) = false := by simpa using hv
    have HV := Aside0.mk hv
    clear hv
    have HN := Aside0.mk (valE_len HV.out)
    have HZ := Aside0.mk KX.out.2
    have hX0 := KX.out.c0
    have hX1 := KX.out.c1
    go_wp2_with fail
    clear hX0 hX1
    refine (joined_calls 50 (fun a b => a && !b) enters50 inFirst_any Ax1 cx1 lx1 Ax0 cx0 lx0 _ HRx1.out HCx1.out HRx0.out HCx0.out (by have := HN.out; omega) (by have := HN.out; omega)).mono ?_
    rintro e w3 ⟨v, rfl, ho, hb⟩
    replace HB := Aside0.mk (below_step HB.out hb)
    replace HRx0 := Aside0.mk (Kd.C_below HRx0.out hb)
    replace HRx1 := Aside0.mk (Kd.C_below HRx1.out hb)
    replace KX := Aside0.mk (KX.out.below hb)
    clear hb
    have HO := Aside0.mk (show Own _ _ _ (doubtL lx0 lx1) by rw [doubtL, if_pos HV.out]; exact ho)
    obtain ⟨A5, c5, rfl, _⟩ := HO.out.slice
    clear ho
    go_wp2_with fail
    go_ret2
    refine ⟨_, by rw [HV.out]; rfl, HO.out.lower ?_, HB.out⟩
    have := HZ.out
    omega
  ·
    have hv1 : (valE lx0 lx1 == 0) = false := by simpa using hv
    have hv2 : (valE lx0 lx1 != 0) = true := by simpa using hv
    have HV := Aside0.mk hv
    clear hv
    go_wp2_with fail
    go_ret2
    refine ⟨_, rfl, ?_, HB.out⟩
    rw [doubtL, if_neg HV.out]
    exact Own.nil _ _
set_option maxHeartbeats 4000000 in
set_option maxRecDepth 100000 in
theorem True_any (Ax0 : Option Addr) (cx0 : Nat) (lx0 : List Int) (Ax1 : Option Addr) (cx1 : Nat) (lx1 : List Int) (Al : Option Addr) (cl : Nat) (ll : List Int) (w : World) (hrx0 : Kd.C (Kd.int .i64) w Ax0 lx0.length lx0) (hcx0 : lx0.length ≤ cx0) (hrx1 : Kd.C (Kd.int .i64) w Ax1 lx1.length lx1) (hcx1 : lx1.length ≤ cx1) (hrl : Kd.C (Kd.int .i64) w Al ll.length ll) (hcl : ll.length ≤ cl) :
    Calls Try.prog 30 #[.agg #[.slice Ax0 lx0.length cx0, .slice Ax1 lx1.length cx1], .slice Al ll.length cl] w fun e w' => e = .returned (.tuple #[.bool (trueB lx0 lx1 ll), .int .i64 (trueE lx0 lx1 ll)]) ∧ Below w.heap.size w w' := by
  have HRx0 := Aside0.mk hrx0
  have HCx0 := Aside0.mk hcx0
  have HRx1 := Aside0.mk hrx1
  have HCx1 := Aside0.mk hcx1
  have HRl := Aside0.mk hrl
  have HCl := Aside0.mk hcl
  clear hrx0 hcx0 hrx1 hcx1 hrl hcl
  have hu22 := Try.underlying22
  have hu29 := Try.underlying29
  have HB := Aside0.mk (Below.refl w.heap.size w)
  go_enter Try.func30, Try.ntmps30
  obtain ⟨w1, hW1⟩ : ∃ x, w.alloc (.cells #[.slice Ax0 lx0.length cx0, .slice Ax1 lx1.length cx1] 29) = x := ⟨_, rfl⟩
  have hb : Below w.heap.size w w1 := by rw [← hW1]; exact below_alloc (Below.refl _ _) _
  replace HB := Aside0.mk (below_step HB.out hb)
  replace HRx0 := Aside0.mk (Kd.C_below HRx0.out hb)
  replace HRx1 := Aside0.mk (Kd.C_below HRx1.out hb)
  replace HRl := Aside0.mk (Kd.C_below HRl.out hb)
  clear hb
  have KX : Aside0 (Held w1 (w.heap.size) (.slice Ax0 lx0.length cx0) (.slice Ax1 lx1.length cx1)) := ⟨by rw [← hW1]; exact Held.new _ _ _⟩
  have hX0 := KX.out.c0
  rw [← hW1] at hX0
  have hX1 := KX.out.c1
  rw [← hW1] at hX1
  have AhW1 := Aside0.mk hW1
  clear hW1
  go_wp2_with fail
  clear hX0 hX1
  rw [AhW1.out]
  clear AhW1
  refine (Validate_any Ax0 cx0 lx0 Ax1 cx1 lx1 _ HRx0.out HCx0.out HRx1.out HCx1.out).mono ?_
  rintro e w2 ⟨rfl, hb⟩
  replace HB := Aside0.mk (below_step HB.out hb)
  replace HRx0 := Aside0.mk (Kd.C_below HRx0.out hb)
  replace HRx1 := Aside0.mk (Kd.C_below HRx1.out hb)
  replace HRl := Aside0.mk (Kd.C_below HRl.out hb)
  replace KX := Aside0.mk (KX.out.below hb)
  clear hb
  by_cases hv : valE lx0 lx1 = 0
  ·
    have hv1 : (valE lx0 lx1 == 0) = true := by simpa using hv
    have hv2 : (valE lx0 lx1 != 0) = false := by simpa using hv
    have HV := Aside0.mk hv
    clear hv
    have HN := Aside0.mk (valE_len HV.out)
    go_wp2_with fail
    refine (isSetB_any Al cl ll 300 _ HRl.out HCl.out).mono ?_
    rintro e w3 ⟨rfl, hb⟩
    replace HB := Aside0.mk (below_step HB.out hb)
    replace HRx0 := Aside0.mk (Kd.C_below HRx0.out hb)
    replace HRx1 := Aside0.mk (Kd.C_below HRx1.out hb)
    replace HRl := Aside0.mk (Kd.C_below HRl.out hb)
    replace KX := Aside0.mk (KX.out.below hb)
    clear hb
    cases hs : setB 300 ll
    · have HS := Aside0.mk hs
      clear hs
      go_wp2_with fail
      go_ret2
      exact ⟨by rw [trueB, trueE, if_pos HV.out, HS.out]; rfl, HB.out⟩
    · have HS := Aside0.mk hs
      clear hs
      have HM := Aside0.mk (setB_length HS.out)
      have hX0 := KX.out.c0
      have hX1 := KX.out.c1
      go_wp2_with fail
      clear hX0 hX1
      refine (joined_calls 50 (fun a b => a && !b) enters50 inFirst_any Ax0 cx0 lx0 Al cl ll _ HRx0.out HCx0.out HRl.out HCl.out (by have := HN.out; omega) (by have := HM.out; omega)).mono ?_
      rintro e w4 ⟨v, rfl, ho, hb⟩
      replace HB := Aside0.mk (below_step HB.out hb)
      replace HRx0 := Aside0.mk (Kd.C_below HRx0.out hb)
      replace HRx1 := Aside0.mk (Kd.C_below HRx1.out hb)
      replace HRl := Aside0.mk (Kd.C_below HRl.out hb)
      replace KX := Aside0.mk (KX.out.below hb)
      clear hb
      have hl : joinF (fun a b => a && !b) lx0 ll = lessF lx0 ll := rfl
      rw [hl] at ho
      clear hl
      obtain ⟨A5, c5, rfl, _⟩ := Own.slice ho
      clear ho
      cases hL : lessF lx0 ll
      · have HL := Aside0.mk hL
        clear hL
        have hX0 := KX.out.c0
        have hX1 := KX.out.c1
        go_wp2_with fail
        clear hX0 hX1
        refine (joined_calls 50 (fun a b => a && !b) enters50 inFirst_any Al cl ll Ax1 cx1 lx1 _ HRl.out HCl.out HRx1.out HCx1.out (by have := HM.out; omega) (by have := HN.out; omega)).mono ?_
        rintro e w5 ⟨v, rfl, ho, hb⟩
        replace HB := Aside0.mk (below_step HB.out hb)
        replace HRx0 := Aside0.mk (Kd.C_below HRx0.out hb)
        replace HRx1 := Aside0.mk (Kd.C_below HRx1.out hb)
        replace HRl := Aside0.mk (Kd.C_below HRl.out hb)
        replace KX := Aside0.mk (KX.out.below hb)
        clear hb
        have hl : joinF (fun a b => a && !b) ll lx1 = lessF ll lx1 := rfl
        rw [hl] at ho
        clear hl
        obtain ⟨A6, c6, rfl, _⟩ := Own.slice ho
        clear ho
        cases hM : lessF ll lx1
        all_goals
          have HK := Aside0.mk hM
          clear hM
          go_wp2_with fail
          go_ret2
          exact ⟨by first | (simp [trueB, trueE, HV.out, HS.out, HL.out, HK.out]; done) | (simp [trueB, trueE, HV.out, HS.out, HL.out, HK.out]; omega), HB.out⟩
      · have HL := Aside0.mk hL
        clear hL
        go_wp2_with fail
        go_ret2
        exact ⟨by simp [trueB, trueE, HV.out, HS.out, HL.out], HB.out⟩
  ·
    have hv1 : (valE lx0 lx1 == 0) = false := by simpa using hv
    have hv2 : (valE lx0 lx1 != 0) = true := by simpa using hv
    have HV := Aside0.mk hv
    clear hv
    go_wp2_with fail
    go_ret2
    exact ⟨by rw [trueB, trueE, if_neg HV.out, if_neg HV.out]; rfl, HB.out⟩
end Go.Proofs.Ytpbdlkbiiglkdaa

/- Settle, and the reference's Known and Settle, by contract. -/
set_option linter.unusedVariables false
set_option linter.unusedSimpArgs false
namespace Go.Proofs.Ytpbdlkbiiglkdaa
open Go.RowKit Go.Proofs.YtpbdlkbiiglkdaaW.PrintWords Go.Proofs.YtpbdlkbiiglkdaaW.PrintLast Go.Proofs.YtpbdlkbiiglkdaaW.PrintMore Go.Proofs.Cab
def settleE (l0 l1 y : List Int) : Int := if valE l0 l1 = 0 then (if setB 300 y = true then knownE (anyF l0 (bothF l1 y)) else 1) else valE l0 l1
def settleL (l0 l1 y : List Int) : List Int := if valE l0 l1 = 0 ∧ setB 300 y = true then knownL (anyF l0 (bothF l1 y)) else []
theorem bothF_set {l y : List Int} (hl : setB 300 l = true) (hy : setB 300 y = true) : setB 300 (bothF l y) = true := by
  rw [bothF_filter (set_asc hl) (set_asc hy)]
  exact setB_of _ _ (filter_asc _ (set_asc hl)) fun x hx => set_mem hl x (List.mem_filter.1 hx).1
theorem isSetR_any (A0 : Option Addr) (c0 : Nat) (l0 : List Int) (w : World) (hr0 : Kd.C (Kd.int .i64) w A0 l0.length l0) (hc0 : l0.length ≤ c0) (h : l0.length ≤ 3000) :
    Calls Try.prog 51 #[.slice A0 l0.length c0] w fun e w' => e = .returned (.bool (setB 300 l0)) ∧ Below w.heap.size w w' :=
  (PAll.cabinetryref12_IsSet.calls 8000 A0 c0 l0 _ w hr0 hc0 (isSetR_f _ _ (by omega) (by omega))).mono fun e w' ⟨he, m, hm⟩ => ⟨he, hm ▸ pw_below_drewN (Below.refl _ _) m⟩
theorem inBothR_any (Ax : Option Addr) (cx : Nat) (lx : List Int) (Ay : Option Addr) (cy : Nat) (ly : List Int) (w : World) (hrx : Kd.C (Kd.int .i64) w Ax lx.length lx) (hcx : lx.length ≤ cx) (hry : Kd.C (Kd.int .i64) w Ay ly.length ly) (hcy : ly.length ≤ cy) (hx : lx.length ≤ 3000) (hy : ly.length ≤ 3000) :
    Calls Try.prog 55 #[.slice Ax lx.length cx, .slice Ay ly.length cy] w fun e w' => ∃ v : Value, e = .returned v ∧ Own w' w.heap.size v (lx.filter fun x => decide (x ∈ ly)) ∧ Below w.heap.size w w' :=
  PAll.cabinetryref12_inBoth.calls 8000 Ax cx lx Ay cy ly _ w hrx hcx hry hcy (inBothR_f _ _ _ hx hy (Nat.le_refl _))
theorem eitherR_any (Ax : Option Addr) (cx : Nat) (lx : List Int) (Ay : Option Addr) (cy : Nat) (ly : List Int) (w : World) (hrx : Kd.C (Kd.int .i64) w Ax lx.length lx) (hcx : lx.length ≤ cx) (hry : Kd.C (Kd.int .i64) w Ay ly.length ly) (hcy : ly.length ≤ cy) (hx : lx.length ≤ 3000) (hy : ly.length ≤ 3000) :
    Calls Try.prog 57 #[.slice Ax lx.length cx, .slice Ay ly.length cy] w fun e w' => ∃ v : Value, e = .returned v ∧ Own w' w.heap.size v ((upTo 300).filter fun x => decide (x ∈ lx) || decide (x ∈ ly)) ∧ Below w.heap.size w w' :=
  PAll.cabinetryref12_either.calls 8000 Ax cx lx Ay cy ly _ w hrx hcx hry hcy (eitherR_f _ _ _ hx hy (Nat.le_refl _))
set_option maxHeartbeats 4000000 in
set_option maxRecDepth 100000 in
theorem KnownR_any (A0 : Option Addr) (c0 : Nat) (l0 : List Int) (w : World) (hr0 : Kd.C (Kd.int .i64) w A0 l0.length l0) (hc0 : l0.length ≤ c0) (hl : l0.length ≤ 3000) :
    Calls Try.prog 38 #[.slice A0 l0.length c0] w fun e w' => ∃ v0 v1 : Value, e = .returned (.tuple #[.agg #[v0, v1], .int .i64 (knownE l0)]) ∧ Own w' w.heap.size v0 (knownL l0) ∧ Own w' w.heap.size v1 (knownL l0) ∧ Below w.heap.size w w' := by
  have HR0 := Aside0.mk hr0
  have HC0 := Aside0.mk hc0
  clear hr0 hc0
  have hu29 := Try.underlying29
  have HL := Aside0.mk hl
  clear hl
  go_enter Try.func38, Try.ntmps38
  obtain ⟨w1, hW⟩ : ∃ x, w.alloc (.cells #[.slice none 0 0, .slice none 0 0] 29) = x := ⟨_, rfl⟩
  have KZ : Aside0 (Held w1 w.heap.size (.slice none 0 0) (.slice none 0 0)) := ⟨by rw [← hW]; exact Held.new _ _ _⟩
  have HB : Aside0 (Below w.heap.size w w1) := ⟨by rw [← hW]; exact below_alloc (Below.refl _ _) _⟩
  have HW := Aside0.mk hW
  clear hW
  go_wp2_with fail
  rw [HW.out]
  refine (isSetR_any A0 c0 l0 _ (Kd.C_below HR0.out HB.out) HC0.out HL.out).mono ?_
  rintro e w2 ⟨rfl, hb⟩
  replace HB := Aside0.mk (below_step HB.out hb)
  replace KZ := Aside0.mk (KZ.out.below hb)
  have hz0 := KZ.out.c0
  have hz1 := KZ.out.c1
  have hf0 := blk_frozen KZ.out.1 0
  have hf1 := blk_frozen KZ.out.1 1
  clear hb
  cases hs : setB 300 l0
  · have HS := Aside0.mk hs
    clear hs
    go_wp2_with fail
    refine bodyPost_ret (results_ct rfl _ _ (w.heap.size) 29 #[.slice none 0 0, .slice none 0 0] (0, 0) _ rfl (blk_put (cs := #[.slice none 0 0, .slice none 0 0]) (blk_put (cs := #[.slice none 0 0, .slice none 0 0]) KZ.out.1 0 _ rfl) 1 _ rfl) Try.underlying29 rfl (by kernel_rfl)) rfl ?_
    refine ⟨.slice none 0 0, .slice none 0 0, by rw [knownE, if_neg (by simp [HS.out])]; rfl, ?_, ?_, ?_⟩
    · simp only [knownL, HS.out]; exact Own.nil _ _
    · simp only [knownL, HS.out]; exact Own.nil _ _
    · exact below_set (below_set HB.out (by omega)) (by omega)
  · have HS := Aside0.mk hs
    clear hs hz0 hz1 hf0 hf1
    go_wp2_with (first
      | (at_builtin; refine appRow (w0 := w2) w2.heap.size (by rfl) _ _ (by rfl) (.slice none 0 0) [] l0 A0 l0.length c0 (by rfl) (by rfl) (Own.nil _ _) (Kd.C_below HR0.out HB.out) (Below.refl _ _) (Nat.le_refl _) (by have := HL.out; simp; omega) ?_; intro v0 w3 ho hb; have HO := Aside0.mk ho; have HB3 := Aside0.mk hb; obtain ⟨A5, c5, rfl, _⟩ := Own.slice ho; clear ho hb)
      | (at_builtin; refine appRow (w0 := w3) w3.heap.size (by rfl) _ _ (by rfl) (.slice none 0 0) [] l0 A0 l0.length c0 (by rfl) (by rfl) (Own.nil _ _) (Kd.C_below HR0.out (below_step HB.out HB3.out)) (Below.refl _ _) (Nat.le_refl _) (by have := HL.out; simp; omega) ?_; intro v1 w4 ho hb; have HO1 := Aside0.mk ho; have HB4 := Aside0.mk hb; obtain ⟨A6, c6, rfl, _⟩ := Own.slice ho; have KZ4 := Aside0.mk ((KZ.out.below HB3.out).below hb); have HO2 := Aside0.mk (HO.out.below hb); have hz0 := KZ4.out.c0; have hz1 := KZ4.out.c1; have hf0 := blk_frozen KZ4.out.1 0; have hf1 := blk_frozen KZ4.out.1 1; clear ho hb))
    have hz := KZ.out.2
    have HZ := Aside0.mk hz
    refine bodyPost_ret (results_ct rfl _ _ (w.heap.size) 29 #[_, _] (0, 0) _ rfl (blk_put (cs := #[_, .slice none 0 0]) (blk_put (cs := #[.slice none 0 0, .slice none 0 0]) KZ4.out.1 0 _ rfl) 1 _ rfl) Try.underlying29 rfl (by kernel_rfl)) rfl ?_
    refine ⟨_, _, by rw [knownE, if_pos HS.out]; rfl, ?_, ?_, ?_⟩
    · simp only [knownL, HS.out, if_true]; exact Own.lower (Own.set (Own.set HO2.out hz _ _) hz _ _) (by omega)
    · simp only [knownL, HS.out, if_true]; exact Own.lower (Own.set (Own.set HO1.out (Nat.lt_of_lt_of_le hz HB3.out.size) _ _) (Nat.lt_of_lt_of_le hz HB3.out.size) _ _) (by have := HB3.out.size; omega)
    · exact below_set (below_set (below_step (below_step HB.out HB3.out) HB4.out) (by omega)) (by omega)
end Go.Proofs.Ytpbdlkbiiglkdaa

/- Ranges, and its reference, by contract. -/
set_option linter.unusedVariables false
set_option linter.unusedSimpArgs false
namespace Go.Proofs.Ytpbdlkbiiglkdaa
open Go.RowKit Go.Proofs.YtpbdlkbiiglkdaaW.PrintWords Go.Proofs.YtpbdlkbiiglkdaaW.PrintLast Go.Proofs.YtpbdlkbiiglkdaaW.PrintMore Go.Proofs.Cab
def rangesL (l : List Int) : List (Int × Int) := if setB 300 l = true then rangesF l else []
set_option maxHeartbeats 4000000 in
set_option maxRecDepth 100000 in
theorem Ranges_any (Ax : Option Addr) (cx : Nat) (lx : List Int) (w : World) (hrx : Kd.C (Kd.int .i64) w Ax lx.length lx) (hcx : lx.length ≤ cx) : Calls Try.prog 24 #[.slice Ax lx.length cx] w fun e w' => ∃ v : Value, e = .returned (.tuple #[v, .int .i64 (knownE lx)]) ∧ Own2 w' w.heap.size v (rangesL lx) ∧ Below w.heap.size w w' := by
  have HRx := Aside0.mk hrx
  have HCx := Aside0.mk hcx
  clear hrx hcx
  go_enter Try.func24, Try.ntmps24
  go_wp2_with fail
  refine (isSetB_any Ax cx lx 300 _ HRx.out HCx.out).mono ?_
  rintro e w1 ⟨rfl, hb⟩
  have HB := Aside0.mk hb
  clear hb
  cases hs : setB 300 lx
  · have HS := Aside0.mk hs
    clear hs
    go_wp2_with fail
    go_ret2
    refine ⟨_, by rw [knownE, if_neg (by rw [HS.out]; decide)]; rfl, ?_, HB.out⟩
    rw [rangesL, if_neg (by rw [HS.out]; decide)]
    exact Kd.R_nil _ _ _ _ _
  · have HS := Aside0.mk hs
    clear hs
    go_wp2_with fail
    refine (ranges_any Ax cx lx _ (Kd.C_below HRx.out HB.out) HCx.out (by have := setB_length HS.out; omega) (fun y hy => by have := set_mem HS.out y hy; omega)).mono ?_
    rintro e w2 ⟨v, rfl, ho, hb⟩
    have HO := Aside0.mk ho
    have HB2 := Aside0.mk (below_step HB.out hb)
    have HZ := Aside0.mk HB.out.size
    clear ho hb
    obtain ⟨A5, c5, rfl⟩ := Kd.R_slice HO.out
    go_wp2_with fail
    go_ret2
    refine ⟨_, by rw [knownE, if_pos HS.out]; rfl, ?_, HB2.out⟩
    rw [rangesL, if_pos HS.out]
    exact Kd.R_lower HO.out HZ.out

set_option maxHeartbeats 4000000 in
set_option maxRecDepth 100000 in
theorem RangesR_any (Ax : Option Addr) (cx : Nat) (lx : List Int) (w : World) (hrx : Kd.C (Kd.int .i64) w Ax lx.length lx) (hcx : lx.length ≤ cx) (hn : lx.length ≤ 3000) : Calls Try.prog 25 #[.slice Ax lx.length cx] w fun e w' => ∃ v : Value, e = .returned (.tuple #[v, .int .i64 (knownE lx)]) ∧ Own2 w' w.heap.size v (rangesL lx) ∧ Below w.heap.size w w' := by
  have HRx := Aside0.mk hrx
  have HCx := Aside0.mk hcx
  clear hrx hcx
  have HN := Aside0.mk hn
  clear hn
  have hu38 := Try.underlying38
  go_enter Try.func25, Try.ntmps25
  go_wp2_with fail
  refine (isSetR_any Ax cx lx _ HRx.out HCx.out HN.out).mono ?_
  rintro e w1 ⟨rfl, hb⟩
  have HB := Aside0.mk hb
  clear hb
  cases hs : setB 300 lx
  · have HS := Aside0.mk hs
    clear hs
    go_wp2_with fail
    go_ret2
    refine ⟨_, by rw [knownE, if_neg (by rw [HS.out]; decide)]; rfl, ?_, HB.out⟩
    rw [rangesL, if_neg (by rw [HS.out]; decide)]
    exact Kd.R_nil _ _ _ _ _
  · have HS := Aside0.mk hs
    clear hs
    have HM := Aside0.mk (setB_length HS.out)
    go_wp2_with fail
    go_loopw [4, 5] (fun v4 v5 wr => ∃ k : Nat, v5 = .int .i64 (k : Int) ∧ k ≤ lx.length ∧ Aside0 (Own2 wr w.heap.size v4 (rangesF (lx.take k))) ∧ Aside0 (∀ (h : 0 < k) (h2 : k - 1 < lx.length), ∃ rs p, rangesF (lx.take k) = rs ++ [p] ∧ p.2 = lx[k - 1]) ∧ Aside0 (Below w.heap.size w wr)) (fun v4 v5 wr => ((lx.length : Int) - intOf v5).toNat)
    case atStart => exact ⟨0, rfl, by omega, ⟨Kd.R_nil _ _ _ _ _⟩, ⟨fun h => absurd h (by omega)⟩, HB⟩
    case round =>
      obtain ⟨k, rfl, hk, HO, HP, HBr⟩ := hrel
      by_cases hlt : k < lx.length
      · obtain ⟨ad, rfl, hcell⟩ := Kd.at_int HRx.out (k : Int) (by omega) (by omega)
        rw [rd_at lx k hlt] at hcell
        have HCW := Aside0.mk (And.intro (World.block_lt_of_cell? w _ hcell) hcell)
        simp only [Int.toNat_natCast] at HCW
        clear hcell
        have HXk : Aside0 (-10000 ≤ lx[k] ∧ lx[k] ≤ 10000) := ⟨by have := set_mem HS.out lx[k] (List.getElem_mem hlt); omega⟩
        have HTK : Aside0 (rangesF (lx.take (k + 1)) = addR (rangesF (lx.take k)) lx[k]) := ⟨by unfold rangesF; rw [List.take_succ_eq_append_getElem hlt, List.foldl_append]; rfl⟩
        have HLL : Aside0 ((rangesF (lx.take k)).length ≤ k) := ⟨by have := foldl_addR_length (lx.take k) []; rw [List.length_take] at this; simp at this; unfold rangesF; omega⟩
        rcases Nat.eq_zero_or_pos k with hk0 | hkp
        · subst hk0
          have hz : rangesF (lx.take 0) = [] := rfl
          rw [hz] at HO HTK
          obtain ⟨x, hxe⟩ : ∃ x, lx[0] = x := ⟨_, rfl⟩
          rw [hxe] at HCW HXk HTK
          have HXE := Aside0.mk hxe
          rw [show ad.add 0 = ad from add0 ad] at HCW
          have hcell : wr.cell? ad = some (.int .i64 x) := (HBr.out.cell HCW.out.1).trans HCW.out.2
          clear hxe hz
          obtain ⟨A2, c2, h2⟩ := Kd.R_slice HO.out
          simp only [List.length_nil] at h2
          subst h2
          go_wp2_with fail
          refine wp_region_segs (by kernel_rfl) [(false, [0, 1, 2, 3, 4, 5, 7, 8, 9, 10, 6, 11, 12, 13, 14])] (by decide) (by kernel_rfl) ?_
          simp only [wpSegs, pickOps, List.getElem?_toArray, List.getElem?_cons_succ, List.getElem?_cons_zero, Bool.false_eq_true, false_implies, true_and, forall_const]
          go_wp2_with fail
          refine ⟨rfl, by kernel_rfl, ?_⟩
          go_wp2_with fail
          refine wp_region_segs (by kernel_rfl) [(false, [0, 1, 2, 3, 5, 6, 7, 4, 8, 9, 10, 11, 12])] (by decide) (by kernel_rfl) ?_
          simp only [wpSegs, pickOps, List.getElem?_toArray, List.getElem?_cons_succ, List.getElem?_cons_zero, Bool.false_eq_true, false_implies, true_and, forall_const]
          go_wp2_with (at_builtin; refine app2 (w0 := w) (W := wr.drew.drew) w.heap.size (by rfl) _ _ (by rfl) (.slice A2 0 c2) [] x x (by rfl) (by rfl) HO.out (below_drew1 (below_drew1 HBr.out)) (below_drew1 (below_drew1 HBr.out)).size (by simp) ?_; intro v1 w1 ho hb; have HB1 := Aside0.mk hb; obtain ⟨g, cap, rfl, hg, hp0, hp1, hf1, hset⟩ := own2_last (rs := []) ho; have HST := Aside0.mk hset; have HG := Aside0.mk hg; have hcell := (hb.cell HCW.out.1).trans HCW.out.2; have hp1 : w1.cell? ⟨g, 1, none⟩ = some (.int .i64 x) := hp1; have hf1 : w1.frozen? ⟨g, 1, none⟩ = false := hf1; clear ho hb hset hg hp0)
          refine ⟨rfl, by kernel_rfl, ?_⟩
          go_wp2_with fail
          refine wp_region_segs (by kernel_rfl) [(false, [0, 1, 2, 3, 4, 5, 6, 8, 7, 9, 10])] (by decide) (by kernel_rfl) ?_
          simp only [wpSegs, pickOps, List.getElem?_toArray, List.getElem?_cons_succ, List.getElem?_cons_zero, Bool.false_eq_true, false_implies, true_and, forall_const]
          go_wp2_with fail
          refine ⟨rfl, by kernel_rfl, ?_⟩
          go_wp2_with fail
          go_roundw
          case rel => exact ⟨1, by go_num, by omega, ⟨by rw [HTK.out, addR_nil]; exact HST.out x⟩, ⟨fun _ _ => ⟨[], (x, x), by rw [HTK.out, addR_nil]; rfl, HXE.out.symm⟩⟩, ⟨below_set (below_drew1 HB1.out) HG.out⟩⟩
          case measure =>
            show ((lx.length : Int) - 1).toNat < ((lx.length : Int) - 0).toNat
            omega
        · obtain ⟨j, hj⟩ : ∃ j, k - 1 = j := ⟨_, rfl⟩
          have hjk : j + 1 = k := by omega
          have hjl : j < lx.length := by omega
          have hkz : ((k : Int) == 0) = false := by simp; omega
          have hw : wrap64 ((k : Int) - 1) = (j : Int) := by rw [wrap_id (by have := HN.out; omega) (by have := HN.out; omega)]; omega
          obtain ⟨rs, p, hr, hp⟩ := HP.out hkp (by omega)
          rw [hr] at HO HTK HLL
          have HR := Aside0.mk hr
          obtain ⟨ad2, hae, hcell2⟩ := Kd.at_int HRx.out (j : Int) (by omega) (by omega)
          obtain rfl : ad = ad2 := Option.some.inj hae
          rw [rd_at lx j hjl] at hcell2
          simp only [hj] at hp
          rw [← hp] at hcell2
          have hcellj : wr.cell? (ad.add j) = some (.int .i64 p.2) := by
            have := (HBr.out.cell (World.block_lt_of_cell? w _ hcell2)).trans hcell2
            simpa using this
          have hpr1 : -10000 ≤ p.2 ∧ p.2 ≤ 10000 := by rw [hp]; have := set_mem HS.out lx[j] (List.getElem_mem hjl); omega
          obtain ⟨hpr1, hpr2⟩ := hpr1
          obtain ⟨x, hxe⟩ : ∃ x, lx[k] = x := ⟨_, rfl⟩
          rw [hxe] at HCW HXk HTK
          have HXE := Aside0.mk hxe
          have hcell : wr.cell? (ad.add k) = some (.int .i64 x) := (HBr.out.cell HCW.out.1).trans HCW.out.2
          have HJ := Aside0.mk (And.intro hj hjk)
          have hm : rs.length + 1 ≤ 3000 := by have h1 := HLL.out; have h2 := HN.out; rw [List.length_append, List.length_singleton] at h1; omega
          clear hxe hr hcell2 hae hp hj hjk
          obtain ⟨g, cap, rfl, hg, hp0, hp1, hf1, hset⟩ := own2_last HO.out
          have HST := Aside0.mk hset
          have HG := Aside0.mk hg
          clear hset hg hp0
          by_cases hx : x = p.2 + 1
          · have hx1 : (x == p.2 + 1) = true := by simpa using hx
            have hx2 : (x != p.2 + 1) = false := by simpa using hx
            have HXQ := Aside0.mk hx
            clear hx
            go_wp2_with fail
            refine wp_region_segs (by kernel_rfl) [(false, [0, 1, 2, 3, 4, 5, 7, 8, 9, 10, 6, 11, 12, 13, 14])] (by decide) (by kernel_rfl) ?_
            simp only [wpSegs, pickOps, List.getElem?_toArray, List.getElem?_cons_succ, List.getElem?_cons_zero, Bool.false_eq_true, false_implies, true_and, forall_const]
            go_wp2_with fail
            refine ⟨rfl, by kernel_rfl, ?_⟩
            go_wp2_with fail
            refine wp_region_segs (by kernel_rfl) [(false, [0, 1, 2, 3, 4, 5, 6, 8, 7, 9, 10])] (by decide) (by kernel_rfl) ?_
            simp only [wpSegs, pickOps, List.getElem?_toArray, List.getElem?_cons_succ, List.getElem?_cons_zero, Bool.false_eq_true, false_implies, true_and, forall_const]
            go_wp2_with fail
            refine ⟨rfl, by kernel_rfl, ?_⟩
            go_wp2_with fail
            go_roundw
            case rel => exact ⟨k + 1, by have hn := HN.out; rw [wrap_id (by omega) (by omega), show (k : Int) + 1 = ((k + 1 : Nat) : Int) by omega], by omega, ⟨by rw [HTK.out, addR_snoc, if_pos HXQ.out.symm]; exact HST.out x⟩, ⟨fun _ _ => ⟨rs, (p.1, x), by rw [HTK.out, addR_snoc, if_pos HXQ.out.symm], HXE.out.symm⟩⟩, ⟨below_set (below_drew1 (below_drew1 HBr.out)) HG.out⟩⟩
            case measure => exact meas_lt hlt (by have := HN.out; omega)
          · have hx1 : (x == p.2 + 1) = false := by simpa using hx
            have hx2 : (x != p.2 + 1) = true := by simpa using hx
            have HXQ : Aside0 (¬ p.2 + 1 = x) := ⟨fun e => hx e.symm⟩
            clear hx hp1 hf1
            have HTK2 : Aside0 (rangesF (lx.take (k + 1)) = rs ++ [p] ++ [(x, x)]) := ⟨by rw [HTK.out, addR_snoc, if_neg HXQ.out]⟩
            have HOL : Aside0 ((rs ++ [p]).length = rs.length + 1) := ⟨by simp⟩
            generalize rs ++ [p] = rs2 at HO HTK2 HOL
            go_wp2_with fail
            refine wp_region_segs (by kernel_rfl) [(false, [0, 1, 2, 3, 4, 5, 7, 8, 9, 10, 6, 11, 12, 13, 14])] (by decide) (by kernel_rfl) ?_
            simp only [wpSegs, pickOps, List.getElem?_toArray, List.getElem?_cons_succ, List.getElem?_cons_zero, Bool.false_eq_true, false_implies, true_and, forall_const]
            go_wp2_with fail
            refine ⟨rfl, by kernel_rfl, ?_⟩
            go_wp2_with fail
            refine wp_region_segs (by kernel_rfl) [(false, [0, 1, 2, 3, 5, 6, 7, 4, 8, 9, 10, 11, 12])] (by decide) (by kernel_rfl) ?_
            simp only [wpSegs, pickOps, List.getElem?_toArray, List.getElem?_cons_succ, List.getElem?_cons_zero, Bool.false_eq_true, false_implies, true_and, forall_const]
            go_wp2_with (at_builtin; refine app2 (w0 := w) (W := wr.drew.drew) w.heap.size (by rfl) _ _ (by rfl) (.slice (some ⟨g, 0, none⟩) (rs.length + 1) cap) rs2 x x (by rfl) (by rfl) HO.out (below_drew1 (below_drew1 HBr.out)) (below_drew1 (below_drew1 HBr.out)).size (by have := HOL.out; omega) ?_; intro v1 w1 ho hb; have HB1 := Aside0.mk hb; obtain ⟨g2, cap2, rfl, hg, hp0, hp1, hf1, hset⟩ := own2_last (rs := rs2) ho; have HST2 := Aside0.mk hset; have HG2 := Aside0.mk hg; have hcell := (hb.cell HCW.out.1).trans HCW.out.2; rw [HOL.out] at hp1 hf1 HST2 ⊢; clear ho hb hset hg hp0)
            refine ⟨rfl, by kernel_rfl, ?_⟩
            go_wp2_with fail
            refine wp_region_segs (by kernel_rfl) [(false, [0, 1, 2, 3, 4, 5, 6, 8, 7, 9, 10])] (by decide) (by kernel_rfl) ?_
            simp only [wpSegs, pickOps, List.getElem?_toArray, List.getElem?_cons_succ, List.getElem?_cons_zero, Bool.false_eq_true, false_implies, true_and, forall_const]
            go_wp2_with fail
            refine ⟨rfl, by kernel_rfl, ?_⟩
            go_wp2_with fail
            go_roundw
            case rel => exact ⟨k + 1, by have hn := HN.out; rw [wrap_id (by omega) (by omega), show (k : Int) + 1 = ((k + 1 : Nat) : Int) by omega], by omega, ⟨by rw [HTK2.out]; exact HST2.out x⟩, ⟨fun _ _ => ⟨rs2, (x, x), HTK2.out, HXE.out.symm⟩⟩, ⟨below_set (below_drew1 HB1.out) HG2.out⟩⟩
            case measure => exact meas_lt hlt (by have := HN.out; omega)
      · obtain rfl : k = lx.length := by omega
        go_wp2_with fail
        go_ret2
        refine ⟨_, by rw [knownE, if_pos HS.out]; rfl, ?_, HBr.out⟩
        rw [rangesL, if_pos HS.out]
        have := HO.out
        rw [List.take_length] at this
        exact this
end Go.Proofs.Ytpbdlkbiiglkdaa

/- The law BitsRanges, walked. -/
set_option linter.unusedVariables false
set_option linter.unusedSimpArgs false
namespace Go.Proofs.Ytpbdlkbiiglkdaa
open Go.RowKit Go.Proofs.YtpbdlkbiiglkdaaW.PrintWords Go.Proofs.YtpbdlkbiiglkdaaW.PrintLast Go.Proofs.YtpbdlkbiiglkdaaW.PrintMore Go.Proofs.Cab
theorem rangesF_length (l : List Int) : (rangesF l).length ≤ l.length := by have := foldl_addR_length l []; simp at this; unfold rangesF; omega
theorem plain3 : Try.prog.plainKey 3 = true := by kernel_rfl
theorem cell3 : Try.prog.cellsOf 3 = 1 := by kernel_rfl
theorem eqPair (x y : Int) (W : World) : (Op.equalIn 10000 38 (.agg #[.int .i64 x, .int .i64 y]) (.agg #[.int .i64 x, .int .i64 y])).run Try.prog W = .ok true W := by
  obtain ⟨i, hi, _⟩ := Option.map_eq_some_iff.1 info3
  rw [run_equalIn_array (P := Try.prog) W 9999 #[.int .i64 x, .int .i64 y] #[.int .i64 x, .int .i64 y] Try.underlying38 hi]
  have p0 := run_part_plain (P := Try.prog) W plain3 (xs := #[.int .i64 x, .int .i64 y]) (off := 0) (v := .int .i64 x) rfl
  have p1 := run_part_plain (P := Try.prog) W plain3 (xs := #[.int .i64 x, .int .i64 y]) (off := 1) (v := .int .i64 y) rfl
  have q : ∀ z : Int, (Op.equalIn 9999 3 (.int .i64 z) (.int .i64 z)).run Try.prog W = .ok true W := fun z => by
    rw [run_equalIn_int W 9998 3 .i64 .i64 z z Try.underlying3]
    simp
  simp only [cell3, Nat.mul_one, List.range_succ, List.range_zero, List.nil_append, List.cons_append, Op.eqItems, Sem.run_bind, p0, q, Result.andThen_ok]
  simp [p1, q]
set_option maxHeartbeats 4000000 in
set_option maxRecDepth 100000 in
theorem BitsRanges_any (Ax : Option Addr) (cx : Nat) (lx : List Int) (w : World) (hrx : Kd.C (Kd.int .i64) w Ax lx.length lx) (hcx : lx.length ≤ cx) : Calls Try.prog 5 #[.slice Ax lx.length cx] w fun e w' => e = .returned (.bool true) ∧ Below w.heap.size w w' := by
  have HRx := Aside0.mk hrx
  have HCx := Aside0.mk hcx
  clear hrx hcx
  have hu38 := Try.underlying38
  go_enter Try.func5, Try.ntmps5
  by_cases h0 : (lx.length : Int) > 3000
  · have h0b := decide_eq_true h0
    go_wp2_with fail
    refine (known_any _).mono ?_
    rintro e w1 ⟨rfl, hb⟩
    have HB := Aside0.mk hb
    clear hb
    go_wp2_with fail
    go_ret
    exact ⟨rfl, HB.out⟩
  · have h0b := decide_eq_false h0
    go_wp2_with fail
    refine (Ranges_any Ax cx lx _ HRx.out HCx.out).mono ?_
    rintro e w1 ⟨v, rfl, ho, hb⟩
    have hLL : (rangesL lx).length ≤ 3000 := by
      unfold rangesL
      split
      · have := rangesF_length lx; omega
      · simp
    obtain ⟨L, hL⟩ : ∃ L, rangesL lx = L := ⟨_, rfl⟩
    rw [hL] at ho hLL
    have HLX := Aside0.mk hL
    have HO1 := Aside0.mk ho
    have HB1 := Aside0.mk hb
    clear ho hb hL
    obtain ⟨A1, c1, rfl⟩ := Kd.R_slice HO1.out
    go_wp2_with fail
    refine (RangesR_any Ax cx lx _ (Kd.C_below HRx.out HB1.out) HCx.out (by omega)).mono ?_
    rintro e w2 ⟨v, rfl, ho, hb⟩
    rw [HLX.out] at ho
    have HO2 := Aside0.mk ho
    have HB2 := Aside0.mk (below_step HB1.out hb)
    have HO12 := Aside0.mk (Own2.below HO1.out hb)
    clear ho hb
    obtain ⟨A2, c2, rfl⟩ := Kd.R_slice HO2.out
    go_wp2_with fail
    go_loopw [7] (fun v7 wr => ∃ k : Nat, v7 = .int .i64 (k : Int) ∧ k ≤ L.length ∧ Aside0 (Below w2.heap.size w2 wr)) (fun v7 wr => ((L.length : Int) - intOf v7).toNat)
    case atStart => exact ⟨0, rfl, by omega, ⟨Below.refl _ _⟩⟩
    case round =>
      obtain ⟨k, rfl, hk, HBr⟩ := hrel
      by_cases hlt : k < L.length
      · obtain ⟨g, cap, hv, hg, e0, e1⟩ := own2_at HO12.out k hlt
        injection hv with hv1 hv2 hv3
        subst hv1 hv3
        obtain ⟨g2, cap2, hv, hg2, f0, f1⟩ := own2_at HO2.out k hlt
        injection hv with hv1 hv2 hv3
        subst hv1 hv3
        have e0 := (HBr.out.cell hg).trans e0
        have e1 := (HBr.out.cell hg).trans e1
        have f0 := (HBr.out.cell hg2).trans f0
        have f1 := (HBr.out.cell hg2).trans f1
        obtain ⟨p, hp⟩ : ∃ p, L[k] = p := ⟨_, rfl⟩
        rw [hp] at e0 e1 f0 f1
        clear hp hg hg2
        have heq := eqPair p.1 p.2
        go_wp2_with fail
        go_quiet (fail)
        go_wp2_with fail
        go_roundw
        case rel => exact ⟨k + 1, by go_num, by omega, ⟨pw_below_drewN HBr.out _⟩⟩
        case measure =>
          show ((L.length : Int) - ((k : Int) + 1)).toNat < ((L.length : Int) - (k : Int)).toNat
          omega
      · obtain rfl : k = L.length := by omega
        go_wp2_with fail
        refine (known_any _).mono ?_
        rintro e w4 ⟨rfl, hb⟩
        have HB4 := Aside0.mk (below_step (below_step HB2.out HBr.out) hb)
        clear hb
        go_wp2_with fail
        go_ret
        exact ⟨rfl, HB4.out⟩
end Go.Proofs.Ytpbdlkbiiglkdaa

/- THE LAW BitsRanges: for every input it returns true, and its arguments read afterwards as they read before. No condition. (The frame is the kit's printed row, turned to a walk of my own.) -/
set_option linter.unusedVariables false
namespace Go.Proofs.Ytpbdlkbiiglkdaa.bitsRanges
open Go.ChangeShapes Go.WideShapes Go.ChangeAt Go.RowKit Go.Proofs.Ytpbdlkbiiglkdaa Go.Proofs.YtpbdlkbiiglkdaaW.PrintWords

set_option maxRecDepth 100000 in
theorem lifted (os : Os) (started : os.Started) (H : Type) (enc : TypeId × Value → H) :
    ReturnsInHanded {} Try.checked os 5 .any (Rows.bitsRangesSpec.pre6 enc Try.prog Try.f5 Rows.bitsRangesRow.domain false) (Rows.bitsRangesSpec.post enc Try.prog Try.f5 false true false false) := by
  refine returnsInHanded_of_change (C := Try.checked) own started (by kernel_rfl) Try.func5
    (ChangeSpec.witness6 (enc := enc) (C := Try.checked) false ⟨#[], #[.slice none 0 0], []⟩ 8 (by kernel_rfl) (by kernel_rfl) (by kernel_rfl) (by kernel_rfl)) ?_
  intro W base args ds gs before hval0 hW hcnd _
  have hval : ∀ (j : Nat) t v, Try.f5.params[j]? = some t → args[j]? = some v → Value.okWide Try.prog W .any base t v := hval0
  have hW' := hW
  obtain ⟨p, q, hA0, hV, rfl, hfz, hnd⟩ := hW
  have hA : DataW.TrodAll enc Try.prog W 0 (fun _ => true) true Try.f5.params.toList args.toList ds p := hA0
  rw [Try.params5] at hA hval
  obtain ⟨v0, vs0, d0, ds0, p0, q0, hargs, rfl, rfl, h0, r0⟩ := trodAll_cons hA
  obtain ⟨rfl, rfl, rfl⟩ := trodAll_nil r0
  obtain rfl : args = #[v0] := by cases args; simp_all
  obtain ⟨rfl, rfl⟩ := trodVars_none hV
  have k0 := h0
  have lt0 := lt_trod k0
  obtain ⟨a0, c0, l0, rfl, w0, _, z0, y0⟩ := came_arg (k := .i64) Try.underlying22 Try.underlying3 (by kernel_rfl) (hval 0 22 v0 rfl rfl) h0
  clear hA0 hval0
  refine (BitsRanges_any a0 c0 l0 W z0 w0).mono fun e W' ⟨he, bel⟩ => ?_
  subst he
  exact ⟨_, rfl, _, _, _, [], _, [], hW', trodAll_mk1 (shut_bool Try.underlying4 _), (trodAll_cons_mk (Below.trod laidOut (by kernel_rfl) (of_decide_eq_true (by kernel_rfl)) k0 bel lt0) trodAll_mk0), rfl, bel.frame _, fun h => by cases h⟩
theorem over : Rows.bitsRangesRow.holds Try.pinned (OpenSpec.ofChange Rows.bitsRangesSpec) :=
  OpenClaim.holds_of_wide 5 Try.f5 rfl rfl rfl rfl rfl rfl rfl ⟨rfl, rfl, rfl, rfl, rfl⟩ rfl rfl rfl rfl rfl (by kernel_rfl) Try.func5 (by kernel_rfl)
    (of_decide_eq_true (by kernel_rfl)) (by unfold Func.isWrapper; first | (rw [if_pos (by decide +kernel)]; kernel_rfl) | (rw [if_neg (by decide +kernel)]; exact ⟨rfl, rfl⟩))
    (fun os started H enc _ => lifted os started H enc)
end Go.Proofs.Ytpbdlkbiiglkdaa.bitsRanges
namespace Go.Proofs.Ytpbdlkbiiglkdaa
theorem bitsRanges_holds : Rows.BitsRangesSaid := bitsRanges.over
#print axioms bitsRanges_holds
end Go.Proofs.Ytpbdlkbiiglkdaa

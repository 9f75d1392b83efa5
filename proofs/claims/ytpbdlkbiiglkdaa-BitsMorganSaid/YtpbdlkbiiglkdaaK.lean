/- The reference's Shift, in plain Lean. -/
import Derived.Test.YtpbdlkbiiglkdaaJ
set_option linter.unusedVariables false
set_option linter.unusedSimpArgs false
namespace Go.Proofs.Ytpbdlkbiiglkdaa
open Go.RowKit Go.Proofs.YtpbdlkbiiglkdaaW.PrintWords Go.Proofs.YtpbdlkbiiglkdaaW.PrintLast Go.Proofs.YtpbdlkbiiglkdaaW.PrintMore Go.Proofs.Cab

theorem below_cons (y : Int) (g : List Int) (x : Int) : (below (y :: g) x : Int) = (if y < x then 1 else 0) + (below g x : Int) := by
  unfold below
  rw [List.filter_cons]
  by_cases h : y < x
  · rw [if_pos (decide_eq_true h), if_pos h, List.length_cons]; omega
  · rw [if_neg (by simpa using h), if_neg h]; omega
theorem below_le (g : List Int) (x : Int) : below g x ≤ g.length := List.length_filter_le _ _
def shiftG (l g : List Int) : List Int := (l.filter fun x => !decide (x ∈ g)).map fun x => x - (below g x : Int)
theorem shiftG_length (l g : List Int) : (shiftG l g).length ≤ l.length := by
  unfold shiftG
  rw [List.length_map]
  exact List.length_filter_le _ _

theorem shiftR_l1 (l g out : List Int) (hl : l.length ≤ 10000) (hg : g.length ≤ 10000) (ho : out.length ≤ 10000) (i : Nat) (hi : i < l.length) : ∀ (d j k : Nat) (n : Int), g.length - j = d → j ≤ g.length → -1000000 + d ≤ n → n ≤ 1000000 →
    PAll.cabinetryref12_Shift.l1 (k + d + 1) l g out (i : Int) n (j : Int) = PAll.cabinetryref12_Shift.l0 k l g (out ++ [n - (below (g.drop j) l[i] : Int)]) ((i + 1 : Nat) : Int)
  | 0, j, k, n, hd, hj, h1, h2 => by
    obtain rfl : j = g.length := by omega
    rw [PAll.cabinetryref12_Shift.l1, if_neg (by omega), if_pos (by omega), wrap_id (by omega) (by omega), List.drop_length]
    simp [below]
  | d + 1, j, k, n, hd, hj, h1, h2 => by
    have hlt : j < g.length := by omega
    rw [show k + (d + 1) + 1 = (k + d + 1) + 1 by omega, PAll.cabinetryref12_Shift.l1, if_pos (by omega), if_pos (by omega), if_pos (by omega), if_pos (by omega), rd_at g j hlt, rd_at l i hi, drop_at g j hlt, below_cons]
    have hw : wrap64 ((j : Int) + 1) = ((j + 1 : Nat) : Int) := by rw [wrap_id (by omega) (by omega)]; omega
    rw [hw]
    by_cases h : g[j] < l[i]
    · rw [if_pos h, if_pos h, wrap_id (by omega) (by omega), shiftR_l1 l g out hl hg ho i hi d (j + 1) k (n - 1) (by omega) (by omega) (by omega) (by omega)]
      have e : ∀ X : Int, n - (1 + X) = n - 1 - X := fun X => by omega
      rw [e]
    · rw [if_neg h, if_neg h, shiftR_l1 l g out hl hg ho i hi d (j + 1) k n (by omega) (by omega) (by omega) (by omega), Int.zero_add]
theorem shiftR_l0 (l g : List Int) (hl : l.length ≤ 3000) (hg : g.length ≤ 3000) (hv : ∀ x ∈ l, -10000 ≤ x ∧ x ≤ 10000) : ∀ (d i k : Nat) (out : List Int), l.length - i = d → i ≤ l.length → out.length ≤ i → d * (g.length + 2) + g.length + 2 ≤ k →
    PAll.cabinetryref12_Shift.l0 k l g out (i : Int) = some (out ++ shiftG (l.drop i) g, 0)
  | 0, i, k + 1, out, hd, hi, ho, hk => by
    obtain rfl : i = l.length := by omega
    rw [PAll.cabinetryref12_Shift.l0, if_neg (by omega), List.drop_length]
    simp [shiftG]
  | d + 1, i, k + 1, out, hd, hi, ho, hk => by
    have hlt : i < l.length := by omega
    rw [Nat.succ_mul] at hk
    have hw : wrap64 ((i : Int) + 1) = ((i + 1 : Nat) : Int) := by rw [wrap_id (by omega) (by omega)]; omega
    rw [PAll.cabinetryref12_Shift.l0, if_pos (by omega), if_pos (by omega), rd_at l i hlt, drop_at l i hlt, hasR_f _ _ _ (by omega) (by omega), Option.bind_some]
    have hvi := hv l[i] (List.getElem_mem hlt)
    by_cases h : l[i] ∈ g
    · rw [if_pos (by simpa using h), hw, shiftR_l0 l g hl hg hv d (i + 1) k out (by omega) (by omega) (by omega) (by omega)]
      simp only [shiftG]
      rw [List.filter_cons, if_neg (by simpa using h)]
    · rw [if_neg (by simpa using h), show k = (k - g.length - 1) + g.length + 1 by omega]
      have h0 := shiftR_l1 l g out (by omega) (by omega) (by omega) i hlt g.length 0 (k - g.length - 1) l[i] (by omega) (by omega) (by omega) (by omega)
      rw [show ((0 : Nat) : Int) = 0 from rfl] at h0
      rw [h0, shiftR_l0 l g hl hg hv d (i + 1) (k - g.length - 1) _ (by omega) (by omega) (by rw [List.length_append, List.length_singleton]; omega) (by omega)]
      simp only [shiftG]
      rw [List.filter_cons, if_pos (by simpa using h), List.map_cons, List.drop_zero, List.append_assoc]
      rfl
theorem shiftR_f (l g : List Int) (hl : l.length ≤ 3000) (hg : g.length ≤ 3000) : ∃ k, PAll.cabinetryref12_Shift.f k l g = some (shiftL l g, shiftE l g) := by
  refine ⟨l.length * (g.length + 2) + l.length + g.length + 10 + 1, ?_⟩
  rw [PAll.cabinetryref12_Shift.f, isSetR_f l _ (by omega) (by omega), Option.bind_some, isSetR_f g _ (by omega) (by omega), Option.bind_some]
  unfold shiftL shiftE
  by_cases h1 : setB 300 l = true
  · rw [if_pos h1]
    by_cases h2 : setB 300 g = true
    · rw [if_pos ⟨h1, h2⟩, if_pos ⟨h1, h2⟩, h2, PAll.cabinetryref12_Shift.j0, if_neg (by decide)]
      have h := shiftR_l0 l g hl hg (fun x hx => by have := set_mem h1 x hx; omega) l.length 0 (l.length * (g.length + 2) + l.length + g.length + 10) [] (by omega) (by omega) (by simp) (by omega)
      rw [show ((0 : Nat) : Int) = 0 from rfl] at h
      rw [h, List.nil_append, List.drop_zero, shiftF, lessF_filter (set_asc h1) (set_asc h2)]
      rfl
    · rw [if_neg (fun h => h2 h.2), if_neg (fun h => h2 h.2), PAll.cabinetryref12_Shift.j0, if_pos (by simpa using h2)]
  · rw [if_neg h1, if_neg (fun h => h1 h.1), if_neg (fun h => h1 h.1), PAll.cabinetryref12_Shift.j0, if_pos rfl]
theorem ShiftR_any (A0 : Option Addr) (c0 : Nat) (l0 : List Int) (A1 : Option Addr) (c1 : Nat) (l1 : List Int) (w : World)
    (hr0 : Kd.C (Kd.int .i64) w A0 l0.length l0) (hc0 : l0.length ≤ c0) (hr1 : Kd.C (Kd.int .i64) w A1 l1.length l1) (hc1 : l1.length ≤ c1) (hl0 : l0.length ≤ 3000) (hl1 : l1.length ≤ 3000) :
    Calls Try.prog 14 #[.slice A0 l0.length c0, .slice A1 l1.length c1] w fun e w' => ∃ v : Value, e = .returned (.tuple #[v, .int .i64 (shiftE l0 l1)]) ∧ Own w' w.heap.size v (shiftL l0 l1) ∧ Below w.heap.size w w' := by
  obtain ⟨k, hk⟩ := shiftR_f l0 l1 hl0 hl1
  exact PAll.cabinetryref12_Shift.calls k A0 c0 l0 A1 c1 l1 _ _ w hr0 hc0 hr1 hc1 hk
end Go.Proofs.Ytpbdlkbiiglkdaa

/- What the printed functions come to, in plain words: sets as ascending lists. -/
import Derived.Test.YtpbdlkbiiglkdaaPAllx
set_option linter.unusedVariables false
set_option linter.unusedSimpArgs false
namespace Go.Proofs.Ytpbdlkbiiglkdaa
open Go.RowKit Go.Proofs.YtpbdlkbiiglkdaaW.PrintWords Go.Proofs.YtpbdlkbiiglkdaaW.PrintLast Go.Proofs.YtpbdlkbiiglkdaaW.PrintMore Go.Proofs.Ytpbdlkbiiglkdaa.PAll

/-- A list ascends from p on, up to n. -/
def setFrom (n : Int) : Int → List Int → Bool
  | _, [] => true
  | p, x :: l => decide (p < x) && (decide (x ≤ n) && setFrom n x l)
def setB (n : Int) (l : List Int) : Bool := setFrom n 0 l

theorem wrap_id {x : Int} (h0 : -9223372036854775808 ≤ x) (h1 : x ≤ 9223372036854775807) : wrap64 x = x := by unfold wrap64; omega
theorem rd_cons0 (x : Int) (l : List Int) : rd (x :: l) 0 = x := rfl
theorem rd_at (l : List Int) (i : Nat) (h : i < l.length) : rd l (i : Int) = l[i] := by
  unfold rd
  simp [List.getD_eq_getElem?_getD, List.getElem?_eq_getElem h]
theorem drop_at (l : List Int) (i : Nat) (h : i < l.length) : l.drop i = l[i] :: l.drop (i + 1) := (List.drop_eq_getElem_cons h)

theorem isSet_l0 (l : List Int) (n : Int) (hl : l.length ≤ 9223372036854775807) : ∀ (d i : Nat), l.length - i = d → i ≤ l.length → ∀ p : Int, 0 ≤ p → (i = 0 → p = 0) → (∀ (h : 0 < i) (h2 : i - 1 < l.length), p = l[i - 1] ∧ 1 ≤ p) →
    bits_isSet.l0 (d + 1) l n l (l.length : Int) (i : Int) = some (setFrom n p (l.drop i)) := by
  intro d
  induction d with
  | zero =>
    intro i hd hi p hp h0 h1
    have hi' : i = l.length := by omega
    rw [bits_isSet.l0]
    rw [if_neg (by omega), hi', List.drop_length]
    rfl
  | succ d ih =>
    intro i hd hi p hp h0 h1
    have hlt : i < l.length := by omega
    rw [bits_isSet.l0]
    rw [if_pos (by omega), if_pos (by omega), if_pos (by omega), rd_at l i hlt, drop_at l i hlt]
    simp only [setFrom]
    by_cases hx : l[i] < 1
    · rw [if_pos hx]
      have : ¬ p < l[i] := by omega
      simp [this]
    · rw [if_neg hx]
      by_cases hn : l[i] > n
      · rw [if_pos hn]
        have : ¬ l[i] ≤ n := by omega
        simp [this]
      · rw [if_neg hn]
        have hn' : l[i] ≤ n := by omega
        have next : bits_isSet.l0 (d + 1) l n l (l.length : Int) (wrap64 ((i : Int) + 1)) = some (setFrom n l[i] (l.drop (i + 1))) := by
          rw [wrap_id (by omega) (by omega), show (i : Int) + 1 = ((i + 1 : Nat) : Int) by omega]
          exact ih (i + 1) (by omega) (by omega) l[i] (by omega) (by omega) (fun _ h2 => ⟨by simp, by omega⟩)
        by_cases hi0 : i = 0
        · subst hi0
          rw [if_neg (by omega), next]
          have : p < l[0] := by have := h0 rfl; omega
          simp [this, hn']
        · rw [if_pos (by omega), wrap_id (by omega) (by omega), show (i : Int) - 1 = ((i - 1 : Nat) : Int) by omega]
          have hp' := h1 (by omega) (by omega)
          rw [if_pos (by omega), if_pos (by omega), rd_at l (i - 1) (by omega), ← hp'.1]
          by_cases hle : l[i] ≤ p
          · rw [if_pos hle]
            have : ¬ p < l[i] := by omega
            simp [this]
          · rw [if_neg hle, next]
            have : p < l[i] := by omega
            simp [this, hn']

theorem isSet_f (l : List Int) (n : Int) (hl : l.length ≤ 9223372036854775807) : ∃ k, bits_isSet.f k l n = some (setB n l) := by
  refine ⟨l.length - 0 + 1, ?_⟩
  have := isSet_l0 l n hl (l.length - 0) 0 rfl (by omega) 0 (by omega) (fun _ => rfl) (fun h => by omega)
  simpa [bits_isSet.f, setB] using this

theorem setFrom_mem {n : Int} : ∀ {l : List Int} {p : Int}, setFrom n p l = true → ∀ x ∈ l, p < x ∧ x ≤ n
  | [], p, h, x, hx => by cases hx
  | y :: l, p, h, x, hx => by
    simp only [setFrom, Bool.and_eq_true, decide_eq_true_eq] at h
    rcases List.mem_cons.1 hx with rfl | hx
    · exact ⟨h.1, h.2.1⟩
    · have := setFrom_mem h.2.2 x hx
      exact ⟨by omega, this.2⟩
theorem setFrom_length {n : Int} : ∀ {l : List Int} {p : Int}, setFrom n p l = true → p ≤ n → (l.length : Int) ≤ n - p
  | [], p, h, hp => by simp; omega
  | y :: l, p, h, hp => by
    simp only [setFrom, Bool.and_eq_true, decide_eq_true_eq] at h
    have := setFrom_length h.2.2 h.2.1
    simp
    omega
theorem setB_length {l : List Int} (h : setB 300 l = true) : l.length ≤ 300 := by
  have := setFrom_length h (by omega)
  omega

/-! ### the wrappers -/
theorem isSet_any (A0 : Option Addr) (c0 : Nat) (l0 : List Int) (n : Int) (w : World) (hr0 : Kd.C (Kd.int .i64) w A0 l0.length l0) (hc0 : l0.length ≤ c0) :
    Calls Try.prog 47 #[.slice A0 l0.length c0, .int .i64 n] w fun e w' => e = .returned (.bool (setB n l0)) ∧ Drawn0 w w' := by
  obtain ⟨k, hk⟩ := isSet_f l0 n hr0.2.1
  exact bits_isSet.calls k A0 c0 l0 n _ w hr0 hc0 hk
end Go.Proofs.Ytpbdlkbiiglkdaa

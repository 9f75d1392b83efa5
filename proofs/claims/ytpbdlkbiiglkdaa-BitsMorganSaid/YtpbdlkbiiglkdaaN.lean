/- The reference's And, Or, Not, Any, True, Doubt by contract. -/
import Derived.Test.YtpbdlkbiiglkdaaM
set_option linter.unusedVariables false
set_option linter.unusedSimpArgs false
namespace Go.Proofs.Ytpbdlkbiiglkdaa
open Go.RowKit Go.Proofs.YtpbdlkbiiglkdaaW.PrintWords Go.Proofs.YtpbdlkbiiglkdaaW.PrintLast Go.Proofs.YtpbdlkbiiglkdaaW.PrintMore Go.Proofs.Cab

theorem valE_sets {s m : List Int} (h : valE s m = 0) : setB 300 s = true ∧ setB 300 m = true ∧ lessF s m = [] := by
  unfold valE at h
  split at h
  · assumption
  · cases h
theorem bothE_zero {l0 l1 m0 m1 : List Int} : bothE l0 l1 m0 m1 = 0 ↔ valE l0 l1 = 0 ∧ valE m0 m1 = 0 := by
  unfold bothE
  by_cases h : valE l0 l1 = 0
  · rw [if_pos h]; simp [h]
  · rw [if_neg h]; simp [h]
theorem AndR_f (l0 l1 m0 m1 : List Int) (h0 : l0.length ≤ 3000) (h1 : l1.length ≤ 3000) (h2 : m0.length ≤ 3000) (h3 : m1.length ≤ 3000) :
    PAll.cabinetryref12_And.f 8000 l0 l1 m0 m1 = some (bothL (fun a b => a && b) l0 l1 m0 m1 l0 m0, bothL (fun a b => a && b) l0 l1 m0 m1 l1 m1, bothE l0 l1 m0 m1) := by
  rw [PAll.cabinetryref12_And.f, bothR_f _ _ _ _ _ h0 h1 h2 h3 (Nat.le_refl _), Option.bind_some, inBothR_f _ _ _ h0 h2 (Nat.le_refl _), Option.bind_some, inBothR_f _ _ _ h1 h3 (Nat.le_refl _), Option.bind_some]
  unfold bothL
  by_cases h : bothE l0 l1 m0 m1 = 0
  · obtain ⟨a, b⟩ := bothE_zero.1 h
    obtain ⟨a1, a2, _⟩ := valE_sets a
    obtain ⟨b1, b2, _⟩ := valE_sets b
    rw [if_pos h, if_pos ⟨a, b⟩, if_pos ⟨a, b⟩, h, ← bothF_filter (set_asc a1) (set_asc b1), ← bothF_filter (set_asc a2) (set_asc b2)]
    rfl
  · rw [if_neg h, if_neg fun e => h (bothE_zero.2 e), if_neg fun e => h (bothE_zero.2 e)]
theorem OrR_f (l0 l1 m0 m1 : List Int) (h0 : l0.length ≤ 3000) (h1 : l1.length ≤ 3000) (h2 : m0.length ≤ 3000) (h3 : m1.length ≤ 3000) :
    PAll.cabinetryref12_Or.f 8000 l0 l1 m0 m1 = some (bothL (fun a b => a || b) l0 l1 m0 m1 l0 m0, bothL (fun a b => a || b) l0 l1 m0 m1 l1 m1, bothE l0 l1 m0 m1) := by
  rw [PAll.cabinetryref12_Or.f, bothR_f _ _ _ _ _ h0 h1 h2 h3 (Nat.le_refl _), Option.bind_some, eitherR_f _ _ _ h0 h2 (Nat.le_refl _), Option.bind_some, eitherR_f _ _ _ h1 h3 (Nat.le_refl _), Option.bind_some]
  unfold bothL
  by_cases h : bothE l0 l1 m0 m1 = 0
  · obtain ⟨a, b⟩ := bothE_zero.1 h
    obtain ⟨a1, a2, _⟩ := valE_sets a
    obtain ⟨b1, b2, _⟩ := valE_sets b
    rw [if_pos h, if_pos ⟨a, b⟩, if_pos ⟨a, b⟩, h, ← anyF_filter a1 b1, ← anyF_filter a2 b2]
    rfl
  · rw [if_neg h, if_neg fun e => h (bothE_zero.2 e), if_neg fun e => h (bothE_zero.2 e)]
theorem countB_range {n : Int} (h : countB n = true) : 0 ≤ n ∧ n ≤ 300 := by
  unfold countB at h
  simpa using h
theorem NotR_f (l0 l1 : List Int) (n : Int) (h0 : l0.length ≤ 3000) (h1 : l1.length ≤ 3000) :
    PAll.cabinetryref12_Not.f 8000 l0 l1 n = some (notL l0 l1 n l1, notL l0 l1 n l0, notE l0 l1 n) := by
  rw [PAll.cabinetryref12_Not.f, valR_f _ _ _ h0 h1 (Nat.le_refl _), Option.bind_some]
  by_cases h : valE l0 l1 = 0
  · obtain ⟨a1, a2, _⟩ := valE_sets h
    rw [if_pos h, isBelowR_f _ _ h1 a2, Option.bind_some]
    by_cases hc : (countB n && setB n l1) = true
    · obtain ⟨c1, c2⟩ := Bool.and_eq_true_iff.1 hc
      have hn := countB_range c1
      have hu : (upTo n).length ≤ 3000 := by rw [upTo_length]; omega
      have hE : notE l0 l1 n = 0 := by unfold notE; rw [if_pos h, if_pos ⟨c1, c2⟩]
      unfold notL
      rw [if_pos hc, if_pos hE, if_pos hE, hE, upToR_f n _ hn.2 (Nat.le_refl _), Option.bind_some, lessR_f _ _ _ hu h1 (Nat.le_refl _), Option.bind_some, Option.bind_some, lessR_f _ _ _ hu h0 (Nat.le_refl _), Option.bind_some,
        lessF_filter (upTo_asc n) (set_asc a2), lessF_filter (upTo_asc n) (set_asc a1)]
    · have hE : notE l0 l1 n = 1 := by unfold notE; rw [if_pos h, if_neg fun e => hc (Bool.and_eq_true_iff.2 e)]
      unfold notL
      rw [if_neg hc, hE, if_neg (by decide), if_neg (by decide)]
  · have hz : ¬ notE l0 l1 n = 0 := by unfold notE; rw [if_neg h]; exact h
    rw [if_neg h]
    unfold notL
    rw [if_neg hz, if_neg hz]
    unfold notE
    rw [if_neg h]
def anyE (n : Int) : Int := if countB n = true then 0 else 1
def anyL (n : Int) : List Int := if countB n = true then upTo n else []
theorem AnyR_f (n : Int) : PAll.cabinetryref12_Any.f 8000 n = some ([], anyL n, anyE n) := by
  rw [PAll.cabinetryref12_Any.f, isBelowR_f _ _ (by simp) rfl, Option.bind_some, show setB n [] = true from rfl, Bool.and_true]
  unfold anyL anyE
  by_cases h : countB n = true
  · rw [if_pos h, if_pos h, if_pos h, upToR_f n _ (countB_range h).2 (Nat.le_refl _), Option.bind_some]
  · rw [if_neg h, if_neg h, if_neg h]
theorem isCount_f (n : Int) : PAll.bits_isCount.f n = some (countB n) := by
  unfold PAll.bits_isCount.f countB
  by_cases h : 0 ≤ n
  · rw [if_pos h, decide_eq_true h]; rfl
  · rw [if_neg h, decide_eq_false h]; rfl
theorem all_f (n : Int) (hn : n ≤ 300) : PAll.bits_all.f (n.toNat + 1) n = some (upTo n) := by
  have := all_l0 n hn n.toNat 0 (by omega) (by omega)
  simpa [PAll.bits_all.f] using this
theorem Any_f (n : Int) : ∃ k, PAll.bits_Any.f k n = some ([], anyL n, anyE n) := by
  refine ⟨n.toNat + 1, ?_⟩
  rw [PAll.bits_Any.f, isCount_f, Option.bind_some]
  unfold anyL anyE
  by_cases h : countB n = true
  · rw [if_pos h, if_pos h, if_pos h, all_f n (countB_range h).2, Option.bind_some]
  · rw [if_neg h, if_neg h, if_neg h]
/-- What True answers. -/
def trueE (l0 l1 l : List Int) : Int := if valE l0 l1 = 0 then (if setB 300 l = true then 0 else 1) else valE l0 l1
def trueB (l0 l1 l : List Int) : Bool := if trueE l0 l1 l = 0 then (decide (lessF l0 l = []) && decide (lessF l l1 = [])) else false
theorem TrueR_f (l0 l1 l : List Int) (h0 : l0.length ≤ 3000) (h1 : l1.length ≤ 3000) (h2 : l.length ≤ 3000) : PAll.cabinetryref12_True.f 8000 l0 l1 l = some (trueB l0 l1 l, trueE l0 l1 l) := by
  rw [PAll.cabinetryref12_True.f, valR_f _ _ _ h0 h1 (Nat.le_refl _), Option.bind_some]
  unfold trueB trueE
  by_cases h : valE l0 l1 = 0
  · obtain ⟨a1, a2, _⟩ := valE_sets h
    rw [if_pos h, if_pos h, isSetR_f _ _ (by omega) (by omega), Option.bind_some]
    by_cases hc : setB 300 l = true
    · rw [if_pos hc, if_pos hc, if_pos rfl, lessR_f _ _ _ h0 h2 (Nat.le_refl _), Option.bind_some, lessR_f _ _ _ h2 h1 (Nat.le_refl _), Option.bind_some, ← lessF_filter (set_asc a1) (set_asc hc), ← lessF_filter (set_asc hc) (set_asc a2)]
      by_cases h3 : lessF l0 l = []
      · rw [h3, if_pos (show (([] : List Int).length : Int) = 0 from rfl)]
        have e : (((lessF l l1).length : Int) == 0) = decide (lessF l l1 = []) := by
          cases lessF l l1 with
          | nil => rfl
          | cons x t => rw [decide_eq_false (by simp)]; simp only [List.length_cons, beq_eq_false_iff_ne]; omega
        rw [e]
        rfl
      · rw [if_neg (by intro e; exact h3 (List.eq_nil_of_length_eq_zero (by omega)))]
        simp [h3]
    · rw [if_neg hc, if_neg hc, if_neg (by decide)]
  · rw [if_neg h, if_neg h, if_neg h]
def doubtL (l0 l1 : List Int) : List Int := if valE l0 l1 = 0 then lessF l1 l0 else []
theorem DoubtR_f (l0 l1 : List Int) (h0 : l0.length ≤ 3000) (h1 : l1.length ≤ 3000) : PAll.cabinetryref12_Doubt.f 8000 l0 l1 = some (doubtL l0 l1, valE l0 l1) := by
  rw [PAll.cabinetryref12_Doubt.f, valR_f _ _ _ h0 h1 (Nat.le_refl _), Option.bind_some]
  unfold doubtL
  by_cases h : valE l0 l1 = 0
  · obtain ⟨a1, a2, _⟩ := valE_sets h
    rw [if_pos h, if_pos h, lessR_f _ _ _ h1 h0 (Nat.le_refl _), Option.bind_some, ← lessF_filter (set_asc a2) (set_asc a1), h]
  · rw [if_neg h, if_neg h]

theorem own_of_R {w : World} {base : Nat} {ok : Nat → Prop} {v : Value} {xs : List Int} (h : Kd.R (Kd.int .i64) 3 w base ok v xs) : Own w base v xs := Kd.R_mono h fun _ _ => trivial
section
variable (Ax0 : Option Addr) (cx0 : Nat) (lx0 : List Int) (Ax1 : Option Addr) (cx1 : Nat) (lx1 : List Int) (Ay0 : Option Addr) (cy0 : Nat) (ly0 : List Int) (Ay1 : Option Addr) (cy1 : Nat) (ly1 : List Int) (Al : Option Addr) (cl : Nat) (ll : List Int) (n : Int) (w : World)
theorem ValidateR_any (hrx0 : Kd.C (Kd.int .i64) w Ax0 lx0.length lx0) (hcx0 : lx0.length ≤ cx0) (hrx1 : Kd.C (Kd.int .i64) w Ax1 lx1.length lx1) (hcx1 : lx1.length ≤ cx1) (hl0 : lx0.length ≤ 3000) (hl1 : lx1.length ≤ 3000) :
    Calls Try.prog 23 #[.agg #[.slice Ax0 lx0.length cx0, .slice Ax1 lx1.length cx1]] w fun e w' => e = .returned (.int .i64 (valE lx0 lx1)) ∧ Below w.heap.size w w' :=
  PAll.cabinetryref12_Validate.calls 8000 Ax0 cx0 lx0 Ax1 cx1 lx1 _ w hrx0 hcx0 hrx1 hcx1 (valR_f _ _ _ hl0 hl1 (Nat.le_refl _))
theorem AndR_any (hrx0 : Kd.C (Kd.int .i64) w Ax0 lx0.length lx0) (hcx0 : lx0.length ≤ cx0) (hrx1 : Kd.C (Kd.int .i64) w Ax1 lx1.length lx1) (hcx1 : lx1.length ≤ cx1) (hry0 : Kd.C (Kd.int .i64) w Ay0 ly0.length ly0) (hcy0 : ly0.length ≤ cy0) (hry1 : Kd.C (Kd.int .i64) w Ay1 ly1.length ly1) (hcy1 : ly1.length ≤ cy1) (h0 : lx0.length ≤ 3000) (h1 : lx1.length ≤ 3000) (h2 : ly0.length ≤ 3000) (h3 : ly1.length ≤ 3000) :
    Calls Try.prog 18 #[.agg #[.slice Ax0 lx0.length cx0, .slice Ax1 lx1.length cx1], .agg #[.slice Ay0 ly0.length cy0, .slice Ay1 ly1.length cy1]] w fun e w' => ∃ v0 v1 : Value, e = .returned (.tuple #[.agg #[v0, v1], .int .i64 (bothE lx0 lx1 ly0 ly1)]) ∧
      Own w' w.heap.size v0 (bothL (fun a b => a && b) lx0 lx1 ly0 ly1 lx0 ly0) ∧ Own w' w.heap.size v1 (bothL (fun a b => a && b) lx0 lx1 ly0 ly1 lx1 ly1) ∧ Below w.heap.size w w' :=
  (PAll.cabinetryref12_And.calls 8000 Ax0 cx0 lx0 Ax1 cx1 lx1 Ay0 cy0 ly0 Ay1 cy1 ly1 _ _ _ w hrx0 hcx0 hrx1 hcx1 hry0 hcy0 hry1 hcy1 (AndR_f _ _ _ _ h0 h1 h2 h3)).mono fun e w' ⟨v0, v1, he, ho0, ho1, hb⟩ => ⟨v0, v1, he, own_of_R ho0, own_of_R ho1, hb⟩
theorem OrR_any (hrx0 : Kd.C (Kd.int .i64) w Ax0 lx0.length lx0) (hcx0 : lx0.length ≤ cx0) (hrx1 : Kd.C (Kd.int .i64) w Ax1 lx1.length lx1) (hcx1 : lx1.length ≤ cx1) (hry0 : Kd.C (Kd.int .i64) w Ay0 ly0.length ly0) (hcy0 : ly0.length ≤ cy0) (hry1 : Kd.C (Kd.int .i64) w Ay1 ly1.length ly1) (hcy1 : ly1.length ≤ cy1) (h0 : lx0.length ≤ 3000) (h1 : lx1.length ≤ 3000) (h2 : ly0.length ≤ 3000) (h3 : ly1.length ≤ 3000) :
    Calls Try.prog 20 #[.agg #[.slice Ax0 lx0.length cx0, .slice Ax1 lx1.length cx1], .agg #[.slice Ay0 ly0.length cy0, .slice Ay1 ly1.length cy1]] w fun e w' => ∃ v0 v1 : Value, e = .returned (.tuple #[.agg #[v0, v1], .int .i64 (bothE lx0 lx1 ly0 ly1)]) ∧
      Own w' w.heap.size v0 (bothL (fun a b => a || b) lx0 lx1 ly0 ly1 lx0 ly0) ∧ Own w' w.heap.size v1 (bothL (fun a b => a || b) lx0 lx1 ly0 ly1 lx1 ly1) ∧ Below w.heap.size w w' :=
  (PAll.cabinetryref12_Or.calls 8000 Ax0 cx0 lx0 Ax1 cx1 lx1 Ay0 cy0 ly0 Ay1 cy1 ly1 _ _ _ w hrx0 hcx0 hrx1 hcx1 hry0 hcy0 hry1 hcy1 (OrR_f _ _ _ _ h0 h1 h2 h3)).mono fun e w' ⟨v0, v1, he, ho0, ho1, hb⟩ => ⟨v0, v1, he, own_of_R ho0, own_of_R ho1, hb⟩
theorem NotR_any (hrx0 : Kd.C (Kd.int .i64) w Ax0 lx0.length lx0) (hcx0 : lx0.length ≤ cx0) (hrx1 : Kd.C (Kd.int .i64) w Ax1 lx1.length lx1) (hcx1 : lx1.length ≤ cx1) (h0 : lx0.length ≤ 3000) (h1 : lx1.length ≤ 3000) :
    Calls Try.prog 27 #[.agg #[.slice Ax0 lx0.length cx0, .slice Ax1 lx1.length cx1], .int .i64 n] w fun e w' => ∃ v0 v1 : Value, e = .returned (.tuple #[.agg #[v0, v1], .int .i64 (notE lx0 lx1 n)]) ∧
      Own w' w.heap.size v0 (notL lx0 lx1 n lx1) ∧ Own w' w.heap.size v1 (notL lx0 lx1 n lx0) ∧ Below w.heap.size w w' :=
  (PAll.cabinetryref12_Not.calls 8000 Ax0 cx0 lx0 Ax1 cx1 lx1 n _ _ _ w hrx0 hcx0 hrx1 hcx1 (NotR_f _ _ _ h0 h1)).mono fun e w' ⟨v0, v1, he, ho0, ho1, hb⟩ => ⟨v0, v1, he, own_of_R ho0, own_of_R ho1, hb⟩
theorem AnyR_any : Calls Try.prog 29 #[.int .i64 n] w fun e w' => ∃ v0 v1 : Value, e = .returned (.tuple #[.agg #[v0, v1], .int .i64 (anyE n)]) ∧
      Own w' w.heap.size v0 [] ∧ Own w' w.heap.size v1 (anyL n) ∧ Below w.heap.size w w' :=
  (PAll.cabinetryref12_Any.calls 8000 n _ _ _ w (AnyR_f n)).mono fun e w' ⟨v0, v1, he, ho0, ho1, hb⟩ => ⟨v0, v1, he, own_of_R ho0, own_of_R ho1, hb⟩
theorem Any_any : Calls Try.prog 28 #[.int .i64 n] w fun e w' => ∃ v0 v1 : Value, e = .returned (.tuple #[.agg #[v0, v1], .int .i64 (anyE n)]) ∧
      Own w' w.heap.size v0 [] ∧ Own w' w.heap.size v1 (anyL n) ∧ Below w.heap.size w w' := by
  obtain ⟨k, hk⟩ := Any_f n
  exact (PAll.bits_Any.calls k n _ _ _ w hk).mono fun e w' ⟨v0, v1, he, ho0, ho1, hb⟩ => ⟨v0, v1, he, own_of_R ho0, own_of_R ho1, hb⟩
theorem TrueR_any (hrx0 : Kd.C (Kd.int .i64) w Ax0 lx0.length lx0) (hcx0 : lx0.length ≤ cx0) (hrx1 : Kd.C (Kd.int .i64) w Ax1 lx1.length lx1) (hcx1 : lx1.length ≤ cx1) (hrl : Kd.C (Kd.int .i64) w Al ll.length ll) (hcl : ll.length ≤ cl) (h0 : lx0.length ≤ 3000) (h1 : lx1.length ≤ 3000) (h2 : ll.length ≤ 3000) :
    Calls Try.prog 31 #[.agg #[.slice Ax0 lx0.length cx0, .slice Ax1 lx1.length cx1], .slice Al ll.length cl] w fun e w' => e = .returned (.tuple #[.bool (trueB lx0 lx1 ll), .int .i64 (trueE lx0 lx1 ll)]) ∧ Below w.heap.size w w' :=
  PAll.cabinetryref12_True.calls 8000 Ax0 cx0 lx0 Ax1 cx1 lx1 Al cl ll _ _ w hrx0 hcx0 hrx1 hcx1 hrl hcl (TrueR_f _ _ _ h0 h1 h2)
theorem DoubtR_any (hrx0 : Kd.C (Kd.int .i64) w Ax0 lx0.length lx0) (hcx0 : lx0.length ≤ cx0) (hrx1 : Kd.C (Kd.int .i64) w Ax1 lx1.length lx1) (hcx1 : lx1.length ≤ cx1) (h0 : lx0.length ≤ 3000) (h1 : lx1.length ≤ 3000) :
    Calls Try.prog 36 #[.agg #[.slice Ax0 lx0.length cx0, .slice Ax1 lx1.length cx1]] w fun e w' => ∃ v : Value, e = .returned (.tuple #[v, .int .i64 (valE lx0 lx1)]) ∧ Own w' w.heap.size v (doubtL lx0 lx1) ∧ Below w.heap.size w w' :=
  (PAll.cabinetryref12_Doubt.calls 8000 Ax0 cx0 lx0 Ax1 cx1 lx1 _ _ w hrx0 hcx0 hrx1 hcx1 (DoubtR_f _ _ h0 h1)).mono fun e w' ⟨v0, he, ho0, hb⟩ => ⟨v0, he, own_of_R ho0, hb⟩
def overB (l0 l1 : List Int) : Bool := decide ((l0.length : Int) > 3000) || decide ((l1.length : Int) > 3000)
theorem over_f (l0 l1 : List Int) : PAll.cabinetrylaw12_over.f l0 l1 = some (overB l0 l1) := by
  unfold PAll.cabinetrylaw12_over.f overB
  by_cases h : (l0.length : Int) > 3000
  · rw [if_pos h, decide_eq_true h]; rfl
  · rw [if_neg h, decide_eq_false h]; rfl
theorem over_any (hrx0 : Kd.C (Kd.int .i64) w Ax0 lx0.length lx0) (hcx0 : lx0.length ≤ cx0) (hrx1 : Kd.C (Kd.int .i64) w Ax1 lx1.length lx1) (hcx1 : lx1.length ≤ cx1) : Calls Try.prog 16 #[.agg #[.slice Ax0 lx0.length cx0, .slice Ax1 lx1.length cx1]] w fun e w' => e = .returned (.bool (overB lx0 lx1)) ∧ Below w.heap.size w w' :=
  PAll.cabinetrylaw12_over.calls Ax0 cx0 lx0 Ax1 cx1 lx1 _ w hrx0 hcx0 hrx1 hcx1 (over_f _ _)
theorem overB_false {l0 l1 : List Int} (h : overB l0 l1 = false) : l0.length ≤ 3000 ∧ l1.length ≤ 3000 := by
  unfold overB at h
  simp at h
  omega
end
end Go.Proofs.Ytpbdlkbiiglkdaa

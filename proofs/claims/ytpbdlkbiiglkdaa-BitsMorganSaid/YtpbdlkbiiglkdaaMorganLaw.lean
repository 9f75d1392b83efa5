/- The complement of an intersection is the union of the complements; in plain Lean. -/
import Derived.Test.YtpbdlkbiiglkdaaO
set_option linter.unusedVariables false
set_option linter.unusedSimpArgs false
namespace Go.Proofs.Ytpbdlkbiiglkdaa
open Go.RowKit Go.Proofs.YtpbdlkbiiglkdaaW.PrintWords Go.Proofs.YtpbdlkbiiglkdaaW.PrintLast Go.Proofs.YtpbdlkbiiglkdaaW.PrintMore Go.Proofs.Cab
theorem setB_of : ∀ (n : Int) (l : List Int), l.Pairwise (· < ·) → (∀ x ∈ l, 1 ≤ x ∧ x ≤ n) → setB n l = true := by
  have key : ∀ (n : Int) (l : List Int) (p : Int), l.Pairwise (· < ·) → (∀ x ∈ l, p < x ∧ x ≤ n) → setFrom n p l = true := by
    intro n l
    induction l with
    | nil => exact fun _ _ _ => rfl
    | cons x l ih =>
      intro p hp hx
      obtain ⟨h1, h2⟩ := List.pairwise_cons.1 hp
      simp only [setFrom, Bool.and_eq_true, decide_eq_true_eq]
      exact ⟨(hx x List.mem_cons_self).1, (hx x List.mem_cons_self).2, ih x h2 fun y hy => ⟨h1 y hy, (hx y (List.mem_cons_of_mem _ hy)).2⟩⟩
  exact fun n l hp hx => key n l 0 hp fun x hx' => by have := hx x hx'; omega
theorem valE_iff {s m : List Int} : valE s m = 0 ↔ setB 300 s = true ∧ setB 300 m = true ∧ ∀ x ∈ s, x ∈ m := by
  constructor
  · intro h
    obtain ⟨a, b, c⟩ := valE_sets h
    rw [lessF_filter (set_asc a) (set_asc b), filter_mem_nil] at c
    exact ⟨a, b, c⟩
  · rintro ⟨a, b, c⟩
    unfold valE
    rw [if_pos ⟨a, b, by rw [lessF_filter (set_asc a) (set_asc b), filter_mem_nil]; exact c⟩]
theorem notE_iff {s m : List Int} {n : Int} : notE s m n = 0 ↔ valE s m = 0 ∧ (0 ≤ n ∧ n ≤ 300) ∧ setB n m = true := by
  unfold notE
  by_cases h : valE s m = 0
  · rw [if_pos h]
    constructor
    · intro e
      split at e
      · rename_i hc
        exact ⟨h, countB_range hc.1, hc.2⟩
      · cases e
    · rintro ⟨_, c, d⟩
      rw [if_pos ⟨by unfold countB; simp [c], d⟩]
  · rw [if_neg h]
    exact ⟨fun e => absurd e h, fun e => absurd e.1 h⟩
theorem lessF_spec {l g : List Int} (hl : l.Pairwise (· < ·)) (hg : g.Pairwise (· < ·)) : (lessF l g).Pairwise (· < ·) ∧ ∀ z, z ∈ lessF l g ↔ z ∈ l ∧ z ∉ g := by
  rw [lessF_filter hl hg]
  exact ⟨filter_asc _ hl, fun z => by simp⟩
theorem notL_spec {s m l : List Int} {n : Int} (h : notE s m n = 0) (hl : l.Pairwise (· < ·)) : (notL s m n l).Pairwise (· < ·) ∧ ∀ z, z ∈ notL s m n l ↔ (1 ≤ z ∧ z ≤ n) ∧ z ∉ l := by
  unfold notL
  rw [if_pos h]
  obtain ⟨a, b⟩ := lessF_spec (upTo_asc n) hl
  exact ⟨a, fun z => by rw [b, upTo_mem]⟩
theorem bothL_spec (f : Bool → Bool → Bool) (hf : f false false = false) {s m t u a b : List Int} (h1 : valE s m = 0) (h2 : valE t u = 0) (ha : a.Pairwise (· < ·)) (hb : b.Pairwise (· < ·)) :
    (bothL f s m t u a b).Pairwise (· < ·) ∧ ∀ z, z ∈ bothL f s m t u a b ↔ f (decide (z ∈ a)) (decide (z ∈ b)) = true := by
  unfold bothL
  rw [if_pos ⟨h1, h2⟩]
  obtain ⟨x, y⟩ := joinF_spec f hf _ a b rfl ha hb
  exact ⟨y, x⟩
theorem morgan_law {x0 x1 y0 y1 La0 La1 Lb0 Lb1 Lp0 Lp1 Lc0 Lc1 Ld0 Ld1 Le0 Le1 : List Int} {n : Int} (hE : notE x0 x1 n = 0) (hF : notE y0 y1 n = 0)
    (hLa0 : notL x0 x1 n x1 = La0) (hLa1 : notL x0 x1 n x0 = La1) (hLb0 : notL y0 y1 n y1 = Lb0) (hLb1 : notL y0 y1 n y0 = Lb1)
    (hLp0 : bothL (fun a b => a && b) x0 x1 y0 y1 x0 y0 = Lp0) (hLp1 : bothL (fun a b => a && b) x0 x1 y0 y1 x1 y1 = Lp1)
    (hLc0 : notL Lp0 Lp1 n Lp1 = Lc0) (hLc1 : notL Lp0 Lp1 n Lp0 = Lc1)
    (hLd0 : bothL (fun a b => a || b) La0 La1 Lb0 Lb1 La0 Lb0 = Ld0) (hLd1 : bothL (fun a b => a || b) La0 La1 Lb0 Lb1 La1 Lb1 = Ld1)
    (hLe0 : notL La0 La1 n La1 = Le0) (hLe1 : notL La0 La1 n La0 = Le1) : Lc0 = Ld0 ∧ Lc1 = Ld1 ∧ Le0 = x0 ∧ Le1 = x1 := by
  obtain ⟨ex, hn, sx⟩ := notE_iff.1 hE
  obtain ⟨ey, _, sy⟩ := notE_iff.1 hF
  obtain ⟨ax0, ax1, sub1⟩ := valE_iff.1 ex
  obtain ⟨ay0, ay1, sub2⟩ := valE_iff.1 ey
  obtain ⟨pa0, ma0⟩ := notL_spec hE (set_asc ax1)
  obtain ⟨pa1, ma1⟩ := notL_spec hE (set_asc ax0)
  obtain ⟨pb0, mb0⟩ := notL_spec hF (set_asc ay1)
  obtain ⟨pb1, mb1⟩ := notL_spec hF (set_asc ay0)
  rw [hLa0] at pa0 ma0
  rw [hLa1] at pa1 ma1
  rw [hLb0] at pb0 mb0
  rw [hLb1] at pb1 mb1
  obtain ⟨pp0, mp0⟩ := bothL_spec (fun a b => a && b) rfl ex ey (set_asc ax0) (set_asc ay0)
  obtain ⟨pp1, mp1⟩ := bothL_spec (fun a b => a && b) rfl ex ey (set_asc ax1) (set_asc ay1)
  rw [hLp0] at pp0 mp0
  rw [hLp1] at pp1 mp1
  simp only [Bool.and_eq_true, decide_eq_true_eq] at mp0 mp1
  have hx1 := set_mem sx
  have hy1 := set_mem sy
  have vp : valE Lp0 Lp1 = 0 := valE_iff.2 ⟨setB_of _ _ pp0 fun z hz => by have := set_mem ax0 z ((mp0 z).1 hz).1; omega, setB_of _ _ pp1 fun z hz => by have := set_mem ax1 z ((mp1 z).1 hz).1; omega,
    fun z hz => (mp1 z).2 ⟨sub1 z ((mp0 z).1 hz).1, sub2 z ((mp0 z).1 hz).2⟩⟩
  have eP : notE Lp0 Lp1 n = 0 := notE_iff.2 ⟨vp, hn, setB_of _ _ pp1 fun z hz => hx1 z ((mp1 z).1 hz).1⟩
  obtain ⟨pc0, mc0⟩ := notL_spec eP pp1
  obtain ⟨pc1, mc1⟩ := notL_spec eP pp0
  rw [hLc0] at pc0 mc0
  rw [hLc1] at pc1 mc1
  have va : valE La0 La1 = 0 := valE_iff.2 ⟨setB_of _ _ pa0 fun z hz => by have := (ma0 z).1 hz; omega, setB_of _ _ pa1 fun z hz => by have := (ma1 z).1 hz; omega,
    fun z hz => (ma1 z).2 ⟨((ma0 z).1 hz).1, fun e => ((ma0 z).1 hz).2 (sub1 z e)⟩⟩
  have vb : valE Lb0 Lb1 = 0 := valE_iff.2 ⟨setB_of _ _ pb0 fun z hz => by have := (mb0 z).1 hz; omega, setB_of _ _ pb1 fun z hz => by have := (mb1 z).1 hz; omega,
    fun z hz => (mb1 z).2 ⟨((mb0 z).1 hz).1, fun e => ((mb0 z).1 hz).2 (sub2 z e)⟩⟩
  obtain ⟨pd0, md0⟩ := bothL_spec (fun a b => a || b) rfl va vb pa0 pb0
  obtain ⟨pd1, md1⟩ := bothL_spec (fun a b => a || b) rfl va vb pa1 pb1
  rw [hLd0] at pd0 md0
  rw [hLd1] at pd1 md1
  simp only [Bool.or_eq_true, decide_eq_true_eq] at md0 md1
  have eA : notE La0 La1 n = 0 := notE_iff.2 ⟨va, hn, setB_of _ _ pa1 fun z hz => ((ma1 z).1 hz).1⟩
  obtain ⟨pe0, me0⟩ := notL_spec eA pa1
  obtain ⟨pe1, me1⟩ := notL_spec eA pa0
  rw [hLe0] at pe0 me0
  rw [hLe1] at pe1 me1
  refine ⟨sorted_ext pc0 pd0 fun z => ?_, sorted_ext pc1 pd1 fun z => ?_, sorted_ext pe0 (set_asc ax0) fun z => ?_, sorted_ext pe1 (set_asc ax1) fun z => ?_⟩
  · rw [mc0, md0, ma0, mb0, mp1]
    by_cases a : z ∈ x1 <;> by_cases b : z ∈ y1 <;> simp [a, b]
  · rw [mc1, md1, ma1, mb1, mp0]
    by_cases a : z ∈ x0 <;> by_cases b : z ∈ y0 <;> simp [a, b]
  · rw [me0, ma1]
    constructor
    · rintro ⟨a, b⟩
      exact Classical.byContradiction fun c => b ⟨a, c⟩
    · intro a
      exact ⟨hx1 z (sub1 z a), fun b => b.2 a⟩
  · rw [me1, ma0]
    constructor
    · rintro ⟨a, b⟩
      exact Classical.byContradiction fun c => b ⟨a, c⟩
    · intro a
      exact ⟨hx1 z a, fun b => b.2 a⟩
end Go.Proofs.Ytpbdlkbiiglkdaa

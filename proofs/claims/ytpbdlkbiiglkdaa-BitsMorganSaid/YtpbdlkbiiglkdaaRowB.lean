/- Arguments opened: knowledge (a struct of two slices), and an array of two of them. -/
import Derived.Test.YtpbdlkbiiglkdaaRowA
set_option linter.unusedVariables false
namespace Go.Proofs.Ytpbdlkbiiglkdaa
open Go.ChangeShapes Go.WideShapes Go.ChangeAt Go.RowKit Go.Proofs.YtpbdlkbiiglkdaaW.PrintWords

theorem cells29 : Try.prog.cellsOf 29 = 2 := by kernel_rfl
theorem cells22 : Try.prog.cellsOf 22 = 1 := by kernel_rfl
theorem cells3 : Try.prog.cellsOf 3 = 1 := by kernel_rfl
section
variable {H : Type} {enc : TypeId × Value → H} {w : World} {base : Nat} {held : Bool}
theorem came29 {fuel : Nat} {cs : List Value} {x : DataW H × List MemPlace} (h : DataW.trod enc Try.prog w base (fun _ => true) held fuel 29 cs = some x) : ∃ v0 v1, cs = [v0, v1] ∧ Came .i64 w v0 ∧ Came .i64 w v1 := by
  obtain ⟨xs, n, rfl, _, hl, hxl, hf⟩ := DataW.trod_struct Try.underlying29 h
  rw [cells29] at hl
  obtain ⟨v0, v1, rfl⟩ : ∃ v0 v1, cs = [v0, v1] := by
    match cs, hl with
    | [a, b], _ => exact ⟨a, b, rfl⟩
  have hxl : xs.length = 2 := hxl
  have h0 : DataW.trod enc Try.prog w base (fun _ => true) held n 22 (([v0, v1].drop 0).take (Try.prog.cellsOf 22)) = xs[0]? := hf 0 _ rfl
  have h1 : DataW.trod enc Try.prog w base (fun _ => true) held n 22 (([v0, v1].drop 1).take (Try.prog.cellsOf 22)) = xs[1]? := hf 1 _ rfl
  rw [cells22] at h0 h1
  simp only [List.drop_zero, List.take_succ_cons, List.take_zero, List.drop_succ_cons] at h0 h1
  rw [List.getElem?_eq_getElem (by omega)] at h0 h1
  obtain ⟨u0, e0, c0⟩ := came_trod Try.underlying22 Try.underlying3 cells3 h0
  obtain ⟨u1, e1, c1⟩ := came_trod Try.underlying22 Try.underlying3 cells3 h1
  injection e0 with e0
  injection e1 with e1
  subst e0 e1
  exact ⟨_, _, rfl, c0, c1⟩
theorem open_bits {b0 : Nat} {r : Reach} {v : Value} {d : DataW H} {ps : List MemPlace} (hv : Value.okWide Try.prog w r b0 29 v) (h : DataW.Trod enc Try.prog w base (fun _ => true) held 29 v d ps) :
    ∃ (A0 : Option Addr) (c0 : Nat) (l0 : List Int) (_ : Kd.C (Kd.int .i64) w A0 l0.length l0) (_ : l0.length ≤ c0) (A1 : Option Addr) (c1 : Nat) (l1 : List Int) (_ : Kd.C (Kd.int .i64) w A1 l1.length l1) (_ : l1.length ≤ c1),
      v = .agg #[.slice A0 l0.length c0, .slice A1 l1.length c1] := by
  obtain ⟨cs, rfl, hs⟩ := okWide_struct Try.underlying29 hv
  obtain ⟨fuel, hf⟩ := h
  obtain ⟨v0, v1, he, ⟨A0, c0, l0, rfl, w0, _, z0, _⟩, A1, c1, l1, rfl, w1, _, z1, _⟩ := came29 hf
  refine ⟨A0, c0, l0, z0, w0, A1, c1, l1, z1, w1, ?_⟩
  have he : cs.toList = _ := he
  rw [← Array.toList_inj.1 (he.trans (List.toList_toArray).symm)]
end
end Go.Proofs.Ytpbdlkbiiglkdaa

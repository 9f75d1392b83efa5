/- THE LAW BitsMorgan: for every input it returns true, and its arguments read afterwards as they read before. No condition. (The frame is the kit's printed row, turned to a walk of my own.) -/
import Derived.Test.YtpbdlkbiiglkdaaRowB
import Derived.Test.YtpbdlkbiiglkdaaQMorgan
set_option linter.unusedVariables false
namespace Go.Proofs.Ytpbdlkbiiglkdaa.bitsMorgan
open Go.ChangeShapes Go.WideShapes Go.ChangeAt Go.RowKit Go.Proofs.Ytpbdlkbiiglkdaa Go.Proofs.YtpbdlkbiiglkdaaW.PrintWords

set_option maxRecDepth 100000 in
theorem lifted (os : Os) (started : os.Started) (H : Type) (enc : TypeId × Value → H) :
    ReturnsInHanded {} Try.checked os 6 .any (Rows.bitsMorganSpec.pre6 enc Try.prog Try.f6 Rows.bitsMorganRow.domain false) (Rows.bitsMorganSpec.post enc Try.prog Try.f6 false true false false) := by
  refine returnsInHanded_of_change (C := Try.checked) own started (by kernel_rfl) Try.func6
    (ChangeSpec.witness6 (enc := enc) (C := Try.checked) false ⟨#[], #[.agg #[.slice none 0 0, .slice none 0 0], .agg #[.slice none 0 0, .slice none 0 0], .int .i64 0], []⟩ 8 (by kernel_rfl) (by kernel_rfl) (by kernel_rfl) (by kernel_rfl)) ?_
  intro W base args ds gs before hval0 hW hcnd _
  have hval : ∀ (j : Nat) t v, Try.f6.params[j]? = some t → args[j]? = some v → Value.okWide Try.prog W .any base t v := hval0
  have hW' := hW
  obtain ⟨p, q, hA0, hV, rfl, hfz, hnd⟩ := hW
  have hA : DataW.TrodAll enc Try.prog W 0 (fun _ => true) true Try.f6.params.toList args.toList ds p := hA0
  rw [Try.params6] at hA hval
  obtain ⟨v0, vs0, d0, ds0, p0, q0, hargs, rfl, rfl, h0, r0⟩ := trodAll_cons hA
  obtain ⟨v1, vs1, d1, ds1, p1, q1, rfl, rfl, rfl, h1, r1⟩ := trodAll_cons r0
  obtain ⟨v2, vs2, d2, ds2, p2, q2, rfl, rfl, rfl, h2, r2⟩ := trodAll_cons r1
  obtain ⟨rfl, rfl, rfl⟩ := trodAll_nil r2
  obtain rfl : args = #[v0, v1, v2] := by cases args; simp_all
  obtain ⟨rfl, rfl⟩ := trodVars_none hV
  have k0 := h0
  have lt0 := lt_trod k0
  obtain ⟨a0_0, c0_0, l0_0, z0_0, w0_0, a0_1, c0_1, l0_1, z0_1, w0_1, rfl⟩ := open_bits (hval 0 29 v0 rfl rfl) h0
  have k1 := h1
  have lt1 := lt_trod k1
  obtain ⟨a1_0, c1_0, l1_0, z1_0, w1_0, a1_1, c1_1, l1_1, z1_1, w1_1, rfl⟩ := open_bits (hval 1 29 v1 rfl rfl) h1
  have k2 := h2
  have lt2 := lt_trod k2
  obtain ⟨a2, rfl, rfl, rfl, w2⟩ := open_int Try.underlying3 (hval 2 3 v2 rfl rfl) h2
  clear hA0 hval0
  refine (BitsMorgan_any a0_0 c0_0 l0_0 a0_1 c0_1 l0_1 a1_0 c1_0 l1_0 a1_1 c1_1 l1_1 a2 W z0_0 w0_0 z0_1 w0_1 z1_0 w1_0 z1_1 w1_1 w2).mono fun e W' ⟨he, bel⟩ => ?_
  subst he
  exact ⟨_, rfl, _, _, _, [], _, [], hW', trodAll_mk1 (shut_bool Try.underlying4 _), (trodAll_cons_mk (Below.trod laidOut (by kernel_rfl) (of_decide_eq_true (by kernel_rfl)) k0 bel lt0) (trodAll_cons_mk (Below.trod laidOut (by kernel_rfl) (of_decide_eq_true (by kernel_rfl)) k1 bel lt1) (trodAll_cons_mk (shut_int Try.underlying3 w2) trodAll_mk0))), rfl, bel.frame _, fun h => by cases h⟩
theorem over : Rows.bitsMorganRow.holds Try.pinned (OpenSpec.ofChange Rows.bitsMorganSpec) :=
  OpenClaim.holds_of_wide 6 Try.f6 rfl rfl rfl rfl rfl rfl rfl ⟨rfl, rfl, rfl, rfl, rfl⟩ rfl rfl rfl rfl rfl (by kernel_rfl) Try.func6 (by kernel_rfl)
    (of_decide_eq_true (by kernel_rfl)) (by unfold Func.isWrapper; first | (rw [if_pos (by decide +kernel)]; kernel_rfl) | (rw [if_neg (by decide +kernel)]; exact ⟨rfl, rfl⟩))
    (fun os started H enc _ => lifted os started H enc)
end Go.Proofs.Ytpbdlkbiiglkdaa.bitsMorgan
namespace Go.Proofs.Ytpbdlkbiiglkdaa
theorem bitsMorgan_holds : Rows.BitsMorganSaid := bitsMorgan.over
#print axioms bitsMorgan_holds
end Go.Proofs.Ytpbdlkbiiglkdaa


/- Clone, Known, Settle, Doubt, True. -/
import Derived.Test.YtpbdlkbiiglkdaaC
import Derived.WalkLawsBesides
import Derived.WalkSpells
set_option linter.unusedVariables false
set_option linter.unusedSimpArgs false
namespace Go.Proofs.Ytpbdlkbiiglkdaa
open Go.RowKit Go.Proofs.YtpbdlkbiiglkdaaW.PrintWords Go.Proofs.YtpbdlkbiiglkdaaW.PrintLast Go.Proofs.YtpbdlkbiiglkdaaW.PrintMore Go.Proofs.Cab

section
variable {ops : Array Oper} {rest : List Oper} {o : Oper} {a : Act} {Q : Exit → Act → World → Prop}
/-- append(v, ys...) on a row of ints of the call's own. -/
theorem appRow {w0 W : World} (base : Nat) (hgd : o.guard = none) (s x : Operand) (ho : o.op = .call { callee := .builtin .append, args := #[s, x], argTypes := #[22, 22] })
    (v : Value) (xs ys : List Int) (A : Option Addr) (m c : Nat) (hs : a.eval s = v) (hx : a.eval x = .slice A m c) (HO : Own W base v xs) (HR : Kd.C (Kd.int .i64) W A m ys) (HB : Below base w0 W) (hbase : base ≤ W.heap.size) (hl : xs.length + m < 17592186044415)
    (h : ∀ v1 w1, Own w1 base v1 (xs ++ ys) → Below base w0 w1 → wpList Try.prog ops Q rest (a.put o.dst v1) w1) : wpList Try.prog ops Q (o :: rest) a W :=
  Kd.R_append_row (Value.int .i64) 0 (w0 := w0) base hgd s x 22 3 (.int .i64 0) 8 ho Try.underlying22 info3 rfl (by decide) v xs ys A m c (fun _ => True) hs hx (fun _ _ => trivial) HO HR HB hbase (by omega)
    fun v1 w1 ho hb _ _ => h v1 w1 ho hb
end
theorem own_empty (W : World) (n : Nat) (hn : n ≤ W.heap.size) : Own (W.alloc (.cells #[] 3)) n (.slice (some ⟨W.heap.size, 0, none⟩) 0 0) [] := by
  have := own_lit W n 3 .i64 [] hn (by simp)
  exact Kd.R_of_own (by simpa [nums, encs] using this) (fun _ _ => trivial)

theorem eqNil (A : Option Addr) (n c : Nat) (W : World) : (binOp .eql 22 (.slice A n c) (.slice none 0 0)).run Try.prog W = .ok (.bool A.isNone) W := by
  simp only [binOp]
  simp [run_equal_slice_nil W 22 3 A n c Try.underlying22]
set_option maxHeartbeats 4000000 in
set_option maxRecDepth 100000 in
theorem Clone_any (A0 : Option Addr) (c0 : Nat) (l0 : List Int) (w : World) (hr0 : Kd.C (Kd.int .i64) w A0 l0.length l0) (hc0 : l0.length ≤ c0) (hn : l0.length ≤ 3000) :
    Calls Try.prog 64 #[.slice A0 l0.length c0] w fun e w' => ∃ v : Value, e = .returned v ∧ Own w' w.heap.size v l0 ∧ Below w.heap.size w w' := by
  have HR0 := Aside0.mk hr0
  have HC0 := Aside0.mk hc0
  clear hr0 hc0
  have hu22 := Try.underlying22
  have hnil := eqNil A0 l0.length c0
  go_enter Try.func64, Try.ntmps64
  cases A0 with
  | none =>
    simp only [Option.isNone_none] at hnil
    have h0 : l0 = [] := by
      rcases Nat.eq_zero_or_pos l0.length with h | h
      · exact List.eq_nil_of_length_eq_zero h
      · obtain ⟨ad, he, _⟩ := HR0.out.2.2 h
        cases he
    have H0 := Aside0.mk h0
    clear h0
    go_wp2_with fail
    go_ret
    exact ⟨_, rfl, by rw [H0.out]; exact Own.nil _ _, Below.refl _ _⟩
  | some ad =>
    simp only [Option.isNone_some] at hnil
    go_wp2_with (at_builtin; refine appRow (w0 := w) w.heap.size rfl _ _ rfl _ [] l0 _ l0.length c0 rfl rfl (own_empty w _ (Nat.le_refl _)) (by repeat (first | exact HR0.out | (with_reducible refine Kd.C_alloc ?_ _) | (with_reducible refine Kd.C_drewN ?_ _) | (with_reducible refine Kd.C_drew ?_))) (by repeat (first | exact Below.refl _ _ | apply pw_below_drewN | apply below_drew1 | apply below_alloc)) (by simp) (by simp; omega) ?_; intro v1 w1 ho hb; have HO1 := Aside0.mk ho; have HB1 := Aside0.mk hb; clear ho hb)
    go_ret
    exact ⟨_, rfl, HO1.out, HB1.out⟩

def knownE (l : List Int) : Int := if setB 300 l = true then 0 else 1
def knownL (l : List Int) : List Int := if setB 300 l = true then l else []
set_option maxHeartbeats 4000000 in
set_option maxRecDepth 100000 in
theorem Known_any (A0 : Option Addr) (c0 : Nat) (l0 : List Int) (w : World) (hr0 : Kd.C (Kd.int .i64) w A0 l0.length l0) (hc0 : l0.length ≤ c0) :
    Calls Try.prog 37 #[.slice A0 l0.length c0] w fun e w' => ∃ v0 v1 : Value, e = .returned (.tuple #[.agg #[v0, v1], .int .i64 (knownE l0)]) ∧ Own w' w.heap.size v0 (knownL l0) ∧ Own w' w.heap.size v1 (knownL l0) ∧ Below w.heap.size w w' := by
  have HR0 := Aside0.mk hr0
  have HC0 := Aside0.mk hc0
  clear hr0 hc0
  have hu29 := Try.underlying29
  go_enter Try.func37, Try.ntmps37
  cases hs : setB 300 l0
  · have HS := Aside0.mk hs
    clear hs
    go_wp2_with fail
    refine (isSet_any A0 c0 l0 300 _ (by repeat (first | exact HR0.out | (with_reducible refine Kd.C_alloc ?_ _) | (with_reducible refine Kd.C_drewN ?_ _) | (with_reducible refine Kd.C_drew ?_))) HC0.out).mono ?_
    rintro e w1 ⟨rfl, ⟨nd, rfl⟩⟩
    simp only [HS.out]
    go_wp2_with fail
    refine bodyPost_ret (results_ct rfl _ _ (w.heap.size) 29 #[.slice none 0 0, .slice none 0 0] (0, 0) _ rfl (blk_put (cs := #[.slice none 0 0, .slice none 0 0]) (blk_put (cs := #[.slice none 0 0, .slice none 0 0]) (blk_drewN (blk_new w _) _) 0 _ rfl) 1 _ rfl) Try.underlying29 rfl (by kernel_rfl)) rfl ?_
    refine ⟨.slice none 0 0, .slice none 0 0, by rw [knownE, if_neg (by simp [HS.out])]; rfl, ?_, ?_, ?_⟩
    · simp only [knownL, HS.out]; exact Own.nil _ _
    · simp only [knownL, HS.out]; exact Own.nil _ _
    · exact below_set (below_set (by repeat (first | exact Below.refl _ _ | apply pw_below_drewN | apply below_drew1 | apply below_alloc)) (by omega)) (by omega)
  · have HS := Aside0.mk hs
    clear hs
    have HN := Aside0.mk (setB_length HS.out)
    go_wp2_with fail
    refine (isSet_any A0 c0 l0 300 _ (by repeat (first | exact HR0.out | (with_reducible refine Kd.C_alloc ?_ _) | (with_reducible refine Kd.C_drewN ?_ _) | (with_reducible refine Kd.C_drew ?_))) HC0.out).mono ?_
    rintro e w1 ⟨rfl, ⟨nd, rfl⟩⟩
    simp only [HS.out]
    go_wp2_with fail
    refine (Clone_any A0 c0 l0 _ (by repeat (first | exact HR0.out | (with_reducible refine Kd.C_alloc ?_ _) | (with_reducible refine Kd.C_drewN ?_ _) | (with_reducible refine Kd.C_drew ?_))) HC0.out (by have := HN.out; omega)).mono ?_
    rintro e w1 ⟨v0, rfl, ho, hb⟩
    have hb' : Below (w.alloc (.cells #[.slice none 0 0, .slice none 0 0] 29)).heap.size (w.alloc (.cells #[.slice none 0 0, .slice none 0 0] 29)) w1 := ⟨hb.os, hb.tape, hb.output, hb.size, hb.block⟩
    obtain ⟨b0, hB⟩ := blk1 _ _ _ hb'
    have B0 := Aside0.mk b0
    have HB := Aside0.mk hB
    have HO : Aside0 (Own w1 (w.heap.size + 1) v0 l0) := ⟨by simpa using ho⟩
    obtain ⟨A2, c2, rfl, _⟩ := HO.out.slice
    clear hb hb' b0 hB ho
    go_wp2_with fail
    refine (Clone_any A0 c0 l0 _ (Kd.C_below HR0.out HB.out) HC0.out (by have := HN.out; omega)).mono ?_
    rintro e w2 ⟨v1, rfl, ho, hb⟩
    have B02 := Aside0.mk (blk_below B0.out hb)
    have HB2 := Aside0.mk (below_step HB.out hb)
    have HO2 := Aside0.mk (HO.out.below hb)
    have HP2 : Aside0 (Own w2 (w.heap.size + 1) v1 l0) := ⟨Own.lower ho (blk_lt B0.out)⟩
    obtain ⟨A3, c3, rfl, _⟩ := HP2.out.slice
    clear hb ho
    have hc0 : w2.cell? ⟨w.heap.size, 0, none⟩ = some (.slice none 0 0) := (blk_cell B02.out 0).trans rfl
    have hc1 : w2.cell? ⟨w.heap.size, 1, none⟩ = some (.slice none 0 0) := (blk_cell B02.out 1).trans rfl
    have hf0 := blk_frozen B02.out 0
    have hf1 := blk_frozen B02.out 1
    go_wp2_with fail
    refine bodyPost_ret (results_ct rfl _ _ (w.heap.size) 29 #[_, _] (0, 0) _ rfl (blk_put (cs := #[_, .slice none 0 0]) (blk_put (cs := #[.slice none 0 0, .slice none 0 0]) B02.out 0 _ rfl) 1 _ rfl) Try.underlying29 rfl (by kernel_rfl)) rfl ?_
    refine ⟨_, _, by rw [knownE, if_pos HS.out]; rfl, ?_, ?_, ?_⟩
    · simp only [knownL, HS.out, if_true]; exact Own.lower (Own.set (Own.set HO2.out (by omega) _ _) (by omega) _ _) (by omega)
    · simp only [knownL, HS.out, if_true]; exact Own.lower (Own.set (Own.set HP2.out (by omega) _ _) (by omega) _ _) (by omega)
    · exact below_set (below_set HB2.out (by omega)) (by omega)
end Go.Proofs.Ytpbdlkbiiglkdaa

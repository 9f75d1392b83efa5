/- And, Or, Not, Known, Settle, Doubt, True. -/
import Derived.Test.YtpbdlkbiiglkdaaB
set_option linter.unusedVariables false
set_option linter.unusedSimpArgs false
namespace Go.Proofs.Ytpbdlkbiiglkdaa
open Go.RowKit Go.Proofs.YtpbdlkbiiglkdaaW.PrintWords Go.Proofs.YtpbdlkbiiglkdaaW.PrintLast Go.Proofs.YtpbdlkbiiglkdaaW.PrintMore Go.Proofs.Cab

set_option maxHeartbeats 4000000 in
set_option maxRecDepth 100000 in
theorem And_any (A0 : Option Addr) (c0 : Nat) (l0 : List Int) (A1 : Option Addr) (c1 : Nat) (l1 : List Int) (B0 : Option Addr) (d0 : Nat) (m0 : List Int) (B1 : Option Addr) (d1 : Nat) (m1 : List Int) (w : World)
    (hr0 : Kd.C (Kd.int .i64) w A0 l0.length l0) (hc0 : l0.length ≤ c0) (hr1 : Kd.C (Kd.int .i64) w A1 l1.length l1) (hc1 : l1.length ≤ c1)
    (hs0 : Kd.C (Kd.int .i64) w B0 m0.length m0) (hd0 : m0.length ≤ d0) (hs1 : Kd.C (Kd.int .i64) w B1 m1.length m1) (hd1 : m1.length ≤ d1) :
    Calls Try.prog 17 #[.agg #[.slice A0 l0.length c0, .slice A1 l1.length c1], .agg #[.slice B0 m0.length d0, .slice B1 m1.length d1]] w fun e w' => ∃ v0 v1 : Value,
      e = .returned (.tuple #[.agg #[v0, v1], .int .i64 (bothE l0 l1 m0 m1)]) ∧
      Own w' w.heap.size v0 (bothL (fun a b => a && b) l0 l1 m0 m1 l0 m0) ∧ Own w' w.heap.size v1 (bothL (fun a b => a && b) l0 l1 m0 m1 l1 m1) ∧ Below w.heap.size w w' := by
  have HR0 := Aside0.mk hr0
  have HC0 := Aside0.mk hc0
  have HR1 := Aside0.mk hr1
  have HC1 := Aside0.mk hc1
  have HS0 := Aside0.mk hs0
  have HD0 := Aside0.mk hd0
  have HS1 := Aside0.mk hs1
  have HD1 := Aside0.mk hd1
  clear hr0 hc0 hr1 hc1 hs0 hd0 hs1 hd1
  have hu29 := Try.underlying29
  go_enter Try.func17, Try.ntmps17
  go_wp2_with fail
  refine (both_any 53 (fun a b => a && b) enters53 inBoth_any A0 c0 l0 A1 c1 l1 B0 d0 m0 B1 d1 m1 _ (by repeat (first | exact HR0.out | (with_reducible refine Kd.C_alloc ?_ _) | (with_reducible refine Kd.C_drewN ?_ _) | (with_reducible refine Kd.C_drew ?_))) HC0.out (by repeat (first | exact HR1.out | (with_reducible refine Kd.C_alloc ?_ _) | (with_reducible refine Kd.C_drewN ?_ _) | (with_reducible refine Kd.C_drew ?_))) HC1.out (by repeat (first | exact HS0.out | (with_reducible refine Kd.C_alloc ?_ _) | (with_reducible refine Kd.C_drewN ?_ _) | (with_reducible refine Kd.C_drew ?_))) HD0.out (by repeat (first | exact HS1.out | (with_reducible refine Kd.C_alloc ?_ _) | (with_reducible refine Kd.C_drewN ?_ _) | (with_reducible refine Kd.C_drew ?_))) HD1.out).mono ?_
  rintro e w1 ⟨v0, v1, rfl, ho0, ho1, hb⟩
  obtain ⟨b0, b1, b2, hB⟩ := blks3 _ _ _ _ _ hb
  obtain ⟨A2, c2, rfl, _⟩ := ho0.slice
  obtain ⟨A3, c3, rfl, _⟩ := ho1.slice
  have HB := Aside0.mk hB
  have B2 := Aside0.mk b2
  have HO0 := Aside0.mk ho0
  have HO1 := Aside0.mk ho1
  have hc0 : w1.cell? ⟨w.heap.size + 1 + 1, 0, none⟩ = some (.slice none 0 0) := (blk_cell b2 0).trans rfl
  have hc1 : w1.cell? ⟨w.heap.size + 1 + 1, 1, none⟩ = some (.slice none 0 0) := (blk_cell b2 1).trans rfl
  have hf0 := blk_frozen b2 0
  have hf1 := blk_frozen b2 1
  clear hb b0 b1 b2 hB ho0 ho1
  go_wp2_with fail
  refine bodyPost_ret (results_ct rfl _ _ (w.heap.size + 1 + 1) 29 #[_, _] (0, 0) _ rfl (blk_put (cs := #[_, .slice none 0 0]) (blk_put (cs := #[.slice none 0 0, .slice none 0 0]) B2.out 0 _ rfl) 1 _ rfl) Try.underlying29 rfl (by kernel_rfl)) rfl ?_
  exact ⟨_, _, rfl, Own.lower (Own.set (Own.set HO0.out (by simp) _ _) (by simp) _ _) (by simp; omega), Own.lower (Own.set (Own.set HO1.out (by simp) _ _) (by simp) _ _) (by simp; omega), below_set (below_set HB.out (by omega)) (by omega)⟩
set_option maxHeartbeats 4000000 in
set_option maxRecDepth 100000 in
theorem Or_any (A0 : Option Addr) (c0 : Nat) (l0 : List Int) (A1 : Option Addr) (c1 : Nat) (l1 : List Int) (B0 : Option Addr) (d0 : Nat) (m0 : List Int) (B1 : Option Addr) (d1 : Nat) (m1 : List Int) (w : World)
    (hr0 : Kd.C (Kd.int .i64) w A0 l0.length l0) (hc0 : l0.length ≤ c0) (hr1 : Kd.C (Kd.int .i64) w A1 l1.length l1) (hc1 : l1.length ≤ c1)
    (hs0 : Kd.C (Kd.int .i64) w B0 m0.length m0) (hd0 : m0.length ≤ d0) (hs1 : Kd.C (Kd.int .i64) w B1 m1.length m1) (hd1 : m1.length ≤ d1) :
    Calls Try.prog 19 #[.agg #[.slice A0 l0.length c0, .slice A1 l1.length c1], .agg #[.slice B0 m0.length d0, .slice B1 m1.length d1]] w fun e w' => ∃ v0 v1 : Value,
      e = .returned (.tuple #[.agg #[v0, v1], .int .i64 (bothE l0 l1 m0 m1)]) ∧
      Own w' w.heap.size v0 (bothL (fun a b => a || b) l0 l1 m0 m1 l0 m0) ∧ Own w' w.heap.size v1 (bothL (fun a b => a || b) l0 l1 m0 m1 l1 m1) ∧ Below w.heap.size w w' := by
  have HR0 := Aside0.mk hr0
  have HC0 := Aside0.mk hc0
  have HR1 := Aside0.mk hr1
  have HC1 := Aside0.mk hc1
  have HS0 := Aside0.mk hs0
  have HD0 := Aside0.mk hd0
  have HS1 := Aside0.mk hs1
  have HD1 := Aside0.mk hd1
  clear hr0 hc0 hr1 hc1 hs0 hd0 hs1 hd1
  have hu29 := Try.underlying29
  go_enter Try.func19, Try.ntmps19
  go_wp2_with fail
  refine (both_any 56 (fun a b => a || b) enters56 inAny_any A0 c0 l0 A1 c1 l1 B0 d0 m0 B1 d1 m1 _ (by repeat (first | exact HR0.out | (with_reducible refine Kd.C_alloc ?_ _) | (with_reducible refine Kd.C_drewN ?_ _) | (with_reducible refine Kd.C_drew ?_))) HC0.out (by repeat (first | exact HR1.out | (with_reducible refine Kd.C_alloc ?_ _) | (with_reducible refine Kd.C_drewN ?_ _) | (with_reducible refine Kd.C_drew ?_))) HC1.out (by repeat (first | exact HS0.out | (with_reducible refine Kd.C_alloc ?_ _) | (with_reducible refine Kd.C_drewN ?_ _) | (with_reducible refine Kd.C_drew ?_))) HD0.out (by repeat (first | exact HS1.out | (with_reducible refine Kd.C_alloc ?_ _) | (with_reducible refine Kd.C_drewN ?_ _) | (with_reducible refine Kd.C_drew ?_))) HD1.out).mono ?_
  rintro e w1 ⟨v0, v1, rfl, ho0, ho1, hb⟩
  obtain ⟨b0, b1, b2, hB⟩ := blks3 _ _ _ _ _ hb
  obtain ⟨A2, c2, rfl, _⟩ := ho0.slice
  obtain ⟨A3, c3, rfl, _⟩ := ho1.slice
  have HB := Aside0.mk hB
  have B2 := Aside0.mk b2
  have HO0 := Aside0.mk ho0
  have HO1 := Aside0.mk ho1
  have hc0 : w1.cell? ⟨w.heap.size + 1 + 1, 0, none⟩ = some (.slice none 0 0) := (blk_cell b2 0).trans rfl
  have hc1 : w1.cell? ⟨w.heap.size + 1 + 1, 1, none⟩ = some (.slice none 0 0) := (blk_cell b2 1).trans rfl
  have hf0 := blk_frozen b2 0
  have hf1 := blk_frozen b2 1
  clear hb b0 b1 b2 hB ho0 ho1
  go_wp2_with fail
  refine bodyPost_ret (results_ct rfl _ _ (w.heap.size + 1 + 1) 29 #[_, _] (0, 0) _ rfl (blk_put (cs := #[_, .slice none 0 0]) (blk_put (cs := #[.slice none 0 0, .slice none 0 0]) B2.out 0 _ rfl) 1 _ rfl) Try.underlying29 rfl (by kernel_rfl)) rfl ?_
  exact ⟨_, _, rfl, Own.lower (Own.set (Own.set HO0.out (by simp) _ _) (by simp) _ _) (by simp; omega), Own.lower (Own.set (Own.set HO1.out (by simp) _ _) (by simp) _ _) (by simp; omega), below_set (below_set HB.out (by omega)) (by omega)⟩

theorem blk1 (w : World) (o1 : Obj) (w1 : World) (hb : Below (w.alloc o1).heap.size (w.alloc o1) w1) : w1.heap[w.heap.size]? = some o1 ∧ Below w.heap.size w w1 :=
  ⟨blk_below (blk_new w o1) hb, below_step (by repeat (first | exact Below.refl _ _ | apply pw_below_drewN | apply below_drew1 | apply below_alloc)) hb⟩

/-! ### wrappers of what is printed -/
def countB (n : Int) : Bool := decide (0 ≤ n) && decide (n ≤ 300)
theorem isCount_any (n : Int) (w : World) : Calls Try.prog 59 #[.int .i64 n] w fun e w' => e = .returned (.bool (countB n)) ∧ Drawn0 w w' := by
  refine PAll.bits_isCount.calls n _ w ?_
  unfold PAll.bits_isCount.f countB
  by_cases h : 0 ≤ n
  · rw [if_pos h]; simp [h]
  · rw [if_neg h]; simp [h]
def upTo (n : Int) : List Int := (List.range n.toNat).map fun k : Nat => (k : Int) + 1
theorem all_l0 (n : Int) (hn : n ≤ 300) : ∀ (d i : Nat), n.toNat - i = d → i ≤ n.toNat → PAll.bits_all.l0 (d + 1) ((List.range i).map fun k : Nat => (k : Int) + 1) n (i : Int) = some (upTo n) := by
  intro d
  induction d with
  | zero =>
    intro i hd hi
    rw [PAll.bits_all.l0, if_neg (by omega), show i = n.toNat by omega]
    rfl
  | succ d ih =>
    intro i hd hi
    rw [PAll.bits_all.l0, if_pos (by omega), if_pos (by simp; omega), wrap_id (by omega) (by omega)]
    have := ih (i + 1) (by omega) (by omega)
    rw [List.range_succ, List.map_append] at this
    simpa using this
theorem all_any (n : Int) (hn : n ≤ 300) (w : World) : Calls Try.prog 60 #[.int .i64 n] w fun e w' => ∃ v : Value, e = .returned v ∧ Own w' w.heap.size v (upTo n) ∧ Below w.heap.size w w' := by
  refine PAll.bits_all.calls (n.toNat - 0 + 1) n (upTo n) w ?_
  exact all_l0 n hn _ 0 rfl (by omega)
theorem upTo_length (n : Int) : (upTo n).length = n.toNat := by simp [upTo]

def notE (l0 l1 : List Int) (n : Int) : Int := if valE l0 l1 = 0 then (if countB n = true ∧ setB n l1 = true then 0 else 1) else valE l0 l1
def notL (l0 l1 : List Int) (n : Int) (l : List Int) : List Int := if notE l0 l1 n = 0 then lessF (upTo n) l else []
theorem valE_len {l0 l1 : List Int} (h : valE l0 l1 = 0) : l0.length ≤ 300 ∧ l1.length ≤ 300 := by
  unfold valE at h
  split at h
  · rename_i h3
    exact ⟨setB_length h3.1, setB_length h3.2.1⟩
  · simp at h

set_option maxHeartbeats 4000000 in
set_option maxRecDepth 100000 in
theorem Not_any (A0 : Option Addr) (c0 : Nat) (l0 : List Int) (A1 : Option Addr) (c1 : Nat) (l1 : List Int) (n : Int) (w : World)
    (hr0 : Kd.C (Kd.int .i64) w A0 l0.length l0) (hc0 : l0.length ≤ c0) (hr1 : Kd.C (Kd.int .i64) w A1 l1.length l1) (hc1 : l1.length ≤ c1) :
    Calls Try.prog 26 #[.agg #[.slice A0 l0.length c0, .slice A1 l1.length c1], .int .i64 n] w fun e w' => ∃ v0 v1 : Value,
      e = .returned (.tuple #[.agg #[v0, v1], .int .i64 (notE l0 l1 n)]) ∧ Own w' w.heap.size v0 (notL l0 l1 n l1) ∧ Own w' w.heap.size v1 (notL l0 l1 n l0) ∧ Below w.heap.size w w' := by
  have HR0 := Aside0.mk hr0
  have HC0 := Aside0.mk hc0
  have HR1 := Aside0.mk hr1
  have HC1 := Aside0.mk hc1
  clear hr0 hc0 hr1 hc1
  have hu29 := Try.underlying29
  go_enter Try.func26, Try.ntmps26
  by_cases hv : valE l0 l1 = 0
  · have HV := Aside0.mk hv
    have hv1 : (valE l0 l1 == 0) = true := by simpa using hv
    have hv2 : (valE l0 l1 != 0) = false := by simpa using hv
    have HN := Aside0.mk (valE_len hv)
    clear hv
    go_wp2_with fail
    refine (Validate_any A0 c0 l0 A1 c1 l1 _ (by repeat (first | exact HR0.out | (with_reducible refine Kd.C_alloc ?_ _) | (with_reducible refine Kd.C_drewN ?_ _) | (with_reducible refine Kd.C_drew ?_))) HC0.out (by repeat (first | exact HR1.out | (with_reducible refine Kd.C_alloc ?_ _) | (with_reducible refine Kd.C_drewN ?_ _) | (with_reducible refine Kd.C_drew ?_))) HC1.out).mono ?_
    rintro e w1 ⟨rfl, hb⟩
    obtain ⟨b0, b1, hB⟩ := blks2 _ _ _ _ hb
    have HB := Aside0.mk hB
    have B0 := Aside0.mk b0
    have B1 := Aside0.mk b1
    clear hb b0 b1 hB
    by_cases hcn : countB n = true
    · have HCN := Aside0.mk hcn
      clear hcn
      go_wp2_with fail
      refine (isCount_any n _).mono ?_
      rintro e w2 ⟨rfl, ⟨nd, rfl⟩⟩
      simp only [HCN.out]
      have hc1 : w1.cell? ⟨w.heap.size, 1, none⟩ = some (.slice A1 l1.length c1) := (blk_cell B0.out 1).trans rfl
      go_wp2_with fail
      refine (isSet_any A1 c1 l1 n _ (Kd.C_below HR1.out (pw_below_drewN HB.out _)) HC1.out).mono ?_
      rintro e w2 ⟨rfl, ⟨nd2, rfl⟩⟩
      clear hc1
      cases hsb : setB n l1
      · have HSB := Aside0.mk hsb
        clear hsb
        have hc0 : w1.cell? ⟨w.heap.size + 1, 0, none⟩ = some (.slice none 0 0) := (blk_cell B1.out 0).trans rfl
        have hc1 : w1.cell? ⟨w.heap.size + 1, 1, none⟩ = some (.slice none 0 0) := (blk_cell B1.out 1).trans rfl
        have hf0 := blk_frozen B1.out 0
        have hf1 := blk_frozen B1.out 1
        go_wp2_with fail
        refine bodyPost_ret (results_ct rfl _ _ (w.heap.size + 1) 29 #[.slice none 0 0, .slice none 0 0] (0, 0) _ rfl (blk_put (cs := #[.slice none 0 0, .slice none 0 0]) (blk_put (cs := #[.slice none 0 0, .slice none 0 0]) (blk_drewN B1.out _) 0 _ rfl) 1 _ rfl) Try.underlying29 rfl (by kernel_rfl)) rfl ?_
        refine ⟨.slice none 0 0, .slice none 0 0, by rw [notE, if_pos HV.out, if_neg (by simp [HSB.out])]; rfl, ?_, ?_, ?_⟩
        · rw [notL, notE, if_pos HV.out, if_neg (show ¬ (countB n = true ∧ setB n l1 = true) by simp [HSB.out]), if_neg (by omega)]; exact Own.nil _ _
        · rw [notL, notE, if_pos HV.out, if_neg (show ¬ (countB n = true ∧ setB n l1 = true) by simp [HSB.out]), if_neg (by omega)]; exact Own.nil _ _
        · exact below_set (below_set (pw_below_drewN HB.out _) (by omega)) (by omega)
      · have HSB := Aside0.mk hsb
        clear hsb
        have HE : Aside0 (notE l0 l1 n = 0) := ⟨by rw [notE, if_pos HV.out, if_pos ⟨HCN.out, HSB.out⟩]⟩
        have hn3 : n ≤ 300 := by have := HCN.out; simp [countB] at this; omega
        have HN3 := Aside0.mk hn3
        clear hn3
        have hc0 : w1.cell? ⟨w.heap.size, 0, none⟩ = some (.slice A0 l0.length c0) := (blk_cell B0.out 0).trans rfl
        have hc1 : w1.cell? ⟨w.heap.size, 1, none⟩ = some (.slice A1 l1.length c1) := (blk_cell B0.out 1).trans rfl
        go_wp2_with fail
        refine wp_region_segs (by kernel_rfl) [(false, [0, 2, 5, 7, 3, 8]), (true, [1]), (true, [4]), (true, [6]), (false, [9, 10, 11, 12])] (by decide) (by kernel_rfl) ?_
        simp only [wpSegs, pickOps, List.getElem?_toArray, List.getElem?_cons_succ, List.getElem?_cons_zero, Bool.false_eq_true, false_implies, true_and, forall_const]
        go_wp2_with fail
        refine (all_any n HN3.out _).mono ?_
        rintro e w3 ⟨v, rfl, ho, hb⟩
        have HX := Aside0.mk (ext_of_below hb)
        have B13 := Aside0.mk (blk_below (blk_drew (blk_drewN B1.out _)) hb)
        have HB3 := Aside0.mk (below_step (below_drew1 (pw_below_drewN HB.out _)) hb)
        obtain ⟨A2, c2, rfl, hq2, hk2⟩ := ho.slice
        clear hc0 hc1 ho hb
        have HU := Aside0.mk (And.intro hq2 hk2)
        clear hq2 hk2
        have HUL := Aside0.mk (upTo_length n)
        go_wp2_with fail
        refine ⟨HX.out, ?_⟩
        go_wp2_with fail
        refine (joined_calls 50 (fun a b => a && !b) enters50 inFirst_any A2 c2 (upTo n) A1 c1 l1 _ HU.out.2 HU.out.1 (Kd.C_below HR1.out HB3.out) HC1.out (by have := HUL.out; have := HN3.out; omega) (by have := HN.out; omega)).mono ?_
        rintro e w4 ⟨v0, rfl, ho, hb⟩
        have HX4 := Aside0.mk (ext_of_below hb)
        have B14 := Aside0.mk (blk_below B13.out hb)
        have HB4 := Aside0.mk (below_step HB3.out hb)
        have HO0 : Aside0 (Own w4 w3.heap.size v0 (lessF (upTo n) l1)) := ⟨ho⟩
        have HL3 := Aside0.mk (blk_lt B13.out)
        obtain ⟨A3, c3, rfl, _⟩ := HO0.out.slice
        clear ho hb
        go_wp2_with fail
        refine ⟨HX4.out, ?_⟩
        go_wp2_with fail
        refine (all_any n HN3.out _).mono ?_
        rintro e w5 ⟨v, rfl, ho, hb⟩
        have HX5 := Aside0.mk (ext_of_below hb)
        have B15 := Aside0.mk (blk_below B14.out hb)
        have HB5 := Aside0.mk (below_step HB4.out hb)
        have HO05 := Aside0.mk (HO0.out.below hb)
        obtain ⟨A4, c4, rfl, hq2, hk2⟩ := ho.slice
        clear ho hb
        have HU5 := Aside0.mk (And.intro hq2 hk2)
        clear hq2 hk2
        go_wp2_with fail
        refine ⟨HX5.out, ?_⟩
        go_wp2_with fail
        refine (joined_calls 50 (fun a b => a && !b) enters50 inFirst_any A4 c4 (upTo n) A0 c0 l0 _ HU5.out.2 HU5.out.1 (Kd.C_below HR0.out HB5.out) HC0.out (by have := HUL.out; have := HN3.out; omega) (by have := HN.out; omega)).mono ?_
        rintro e w6 ⟨v1, rfl, ho, hb⟩
        have B16 := Aside0.mk (blk_below B15.out hb)
        have HB6 := Aside0.mk (below_step HB5.out hb)
        have HO06 := Aside0.mk (HO05.out.below hb)
        have HO1 : Aside0 (Own w6 w5.heap.size v1 (lessF (upTo n) l0)) := ⟨ho⟩
        have HL5 := Aside0.mk (blk_lt B15.out)
        obtain ⟨A5, c5, rfl, _⟩ := HO1.out.slice
        clear ho hb
        have hc0 : w6.cell? ⟨w.heap.size + 1, 0, none⟩ = some (.slice none 0 0) := (blk_cell B16.out 0).trans rfl
        have hc1 : w6.cell? ⟨w.heap.size + 1, 1, none⟩ = some (.slice none 0 0) := (blk_cell B16.out 1).trans rfl
        have hf0 := blk_frozen B16.out 0
        have hf1 := blk_frozen B16.out 1
        go_wp2_with fail
        refine ⟨rfl, by kernel_rfl, ?_⟩
        go_wp2_with fail
        refine bodyPost_ret (results_ct rfl _ _ (w.heap.size + 1) 29 #[_, _] (0, 0) _ rfl (blk_put (cs := #[_, .slice none 0 0]) (blk_put (cs := #[.slice none 0 0, .slice none 0 0]) B16.out 0 _ rfl) 1 _ rfl) Try.underlying29 rfl (by kernel_rfl)) rfl ?_
        refine ⟨_, _, by rw [HE.out]; rfl, ?_, ?_, ?_⟩
        · rw [notL, if_pos HE.out]; exact Own.lower (Own.set (Own.set HO06.out HL3.out _ _) HL3.out _ _) (by have := HL3.out; omega)
        · rw [notL, if_pos HE.out]; exact Own.lower (Own.set (Own.set HO1.out HL5.out _ _) HL5.out _ _) (by have := HL5.out; omega)
        · exact below_set (below_set HB6.out (by omega)) (by omega)
    · have HCN := Aside0.mk (Bool.eq_false_iff.mpr hcn)
      clear hcn
      go_wp2_with fail
      refine (isCount_any n _).mono ?_
      rintro e w2 ⟨rfl, ⟨nd, rfl⟩⟩
      simp only [HCN.out]
      have hc0 : w1.cell? ⟨w.heap.size + 1, 0, none⟩ = some (.slice none 0 0) := (blk_cell B1.out 0).trans rfl
      have hc1 : w1.cell? ⟨w.heap.size + 1, 1, none⟩ = some (.slice none 0 0) := (blk_cell B1.out 1).trans rfl
      have hf0 := blk_frozen B1.out 0
      have hf1 := blk_frozen B1.out 1
      go_wp2_with fail
      refine bodyPost_ret (results_ct rfl _ _ (w.heap.size + 1) 29 #[.slice none 0 0, .slice none 0 0] (0, 0) _ rfl (blk_put (cs := #[.slice none 0 0, .slice none 0 0]) (blk_put (cs := #[.slice none 0 0, .slice none 0 0]) (blk_drewN B1.out _) 0 _ rfl) 1 _ rfl) Try.underlying29 rfl (by kernel_rfl)) rfl ?_
      refine ⟨.slice none 0 0, .slice none 0 0, by rw [notE, if_pos HV.out, if_neg (by simp [HCN.out])]; rfl, ?_, ?_, ?_⟩
      · rw [notL, notE, if_pos HV.out, if_neg (show ¬ (countB n = true ∧ setB n l1 = true) by simp [HCN.out]), if_neg (by omega)]; exact Own.nil _ _
      · rw [notL, notE, if_pos HV.out, if_neg (show ¬ (countB n = true ∧ setB n l1 = true) by simp [HCN.out]), if_neg (by omega)]; exact Own.nil _ _
      · exact below_set (below_set (pw_below_drewN HB.out _) (by omega)) (by omega)
  · have HV := Aside0.mk hv
    have hv1 : (valE l0 l1 == 0) = false := by simpa using hv
    have hv2 : (valE l0 l1 != 0) = true := by simpa using hv
    clear hv
    go_wp2_with fail
    refine (Validate_any A0 c0 l0 A1 c1 l1 _ (by repeat (first | exact HR0.out | (with_reducible refine Kd.C_alloc ?_ _) | (with_reducible refine Kd.C_drewN ?_ _) | (with_reducible refine Kd.C_drew ?_))) HC0.out (by repeat (first | exact HR1.out | (with_reducible refine Kd.C_alloc ?_ _) | (with_reducible refine Kd.C_drewN ?_ _) | (with_reducible refine Kd.C_drew ?_))) HC1.out).mono ?_
    rintro e w1 ⟨rfl, hb⟩
    obtain ⟨b0, b1, hB⟩ := blks2 _ _ _ _ hb
    have HB := Aside0.mk hB
    have B1 := Aside0.mk b1
    have hc0 : w1.cell? ⟨w.heap.size + 1, 0, none⟩ = some (.slice none 0 0) := (blk_cell b1 0).trans rfl
    have hc1 : w1.cell? ⟨w.heap.size + 1, 1, none⟩ = some (.slice none 0 0) := (blk_cell b1 1).trans rfl
    have hf0 := blk_frozen b1 0
    have hf1 := blk_frozen b1 1
    clear hb b0 b1 hB
    go_wp2_with fail
    refine bodyPost_ret (results_ct rfl _ _ (w.heap.size + 1) 29 #[.slice none 0 0, .slice none 0 0] (0, 0) _ rfl (blk_put (cs := #[.slice none 0 0, .slice none 0 0]) (blk_put (cs := #[.slice none 0 0, .slice none 0 0]) B1.out 0 _ rfl) 1 _ rfl) Try.underlying29 rfl (by kernel_rfl)) rfl ?_
    refine ⟨.slice none 0 0, .slice none 0 0, by rw [notE, if_neg HV.out]; rfl, ?_, ?_, ?_⟩
    · rw [notL, notE, if_neg HV.out, if_neg HV.out]; exact Own.nil _ _
    · rw [notL, notE, if_neg HV.out, if_neg HV.out]; exact Own.nil _ _
    · exact below_set (below_set HB.out (by omega)) (by omega)
end Go.Proofs.Ytpbdlkbiiglkdaa

/- What Validate, both, .. do, by the functions that they call. -/
import Derived.Test.YtpbdlkbiiglkdaaA
import Derived.Test.YtpbdlkbiiglkdaaP
set_option linter.unusedVariables false
set_option linter.unusedSimpArgs false
namespace Go.Proofs.Ytpbdlkbiiglkdaa
open Go.RowKit Go.Proofs.YtpbdlkbiiglkdaaW.PrintWords Go.Proofs.YtpbdlkbiiglkdaaW.PrintLast Go.Proofs.YtpbdlkbiiglkdaaW.PrintMore Go.Proofs.Cab

/-- What Validate answers: 0 or ErrArg. -/
def valE (s m : List Int) : Int := if setB 300 s = true ∧ setB 300 m = true ∧ lessF s m = [] then 0 else 1

set_option maxHeartbeats 4000000 in
set_option maxRecDepth 100000 in
theorem Validate_any (A0 : Option Addr) (c0 : Nat) (l0 : List Int) (A1 : Option Addr) (c1 : Nat) (l1 : List Int) (w : World)
    (hr0 : Kd.C (Kd.int .i64) w A0 l0.length l0) (hc0 : l0.length ≤ c0) (hr1 : Kd.C (Kd.int .i64) w A1 l1.length l1) (hc1 : l1.length ≤ c1) :
    Calls Try.prog 22 #[.agg #[.slice A0 l0.length c0, .slice A1 l1.length c1]] w fun e w' => e = .returned (.int .i64 (valE l0 l1)) ∧ Below w.heap.size w w' := by
  have HR0 := Aside0.mk hr0
  have HC0 := Aside0.mk hc0
  have HR1 := Aside0.mk hr1
  have HC1 := Aside0.mk hc1
  clear hr0 hc0 hr1 hc1
  have hu29 := Try.underlying29
  go_enter Try.func22, Try.ntmps22
  cases hs0 : setB 300 l0
  · have HS := Aside0.mk hs0
    clear hs0
    go_wp2_with fail
    refine (isSet_any A0 c0 l0 300 _ (by repeat (first | exact HR0.out | (with_reducible refine Kd.C_alloc ?_ _) | (with_reducible refine Kd.C_drewN ?_ _) | (with_reducible refine Kd.C_drew ?_))) HC0.out).mono ?_
    rintro e w' ⟨rfl, ⟨n, rfl⟩⟩
    simp only [HS.out]
    go_wp2_with fail
    go_ret
    exact ⟨by simp [valE, HS.out], (by repeat (first | exact Below.refl _ _ | apply pw_below_drewN | apply below_drew1 | apply below_alloc))⟩
  · have HS := Aside0.mk hs0
    clear hs0
    have HS1 : Aside0 (∃ b, setB 300 l1 = b) := ⟨⟨_, rfl⟩⟩
    cases hs1 : setB 300 l1
    · have HS1 := Aside0.mk hs1
      clear hs1
      go_wp2_with fail
      refine (isSet_any A0 c0 l0 300 _ (by repeat (first | exact HR0.out | (with_reducible refine Kd.C_alloc ?_ _) | (with_reducible refine Kd.C_drewN ?_ _) | (with_reducible refine Kd.C_drew ?_))) HC0.out).mono ?_
      rintro e w' ⟨rfl, ⟨n, rfl⟩⟩
      simp only [HS.out]
      go_wp2_with fail
      refine (isSet_any A1 c1 l1 300 _ (by repeat (first | exact HR1.out | (with_reducible refine Kd.C_alloc ?_ _) | (with_reducible refine Kd.C_drewN ?_ _) | (with_reducible refine Kd.C_drew ?_))) HC1.out).mono ?_
      rintro e w' ⟨rfl, ⟨n2, rfl⟩⟩
      simp only [HS1.out]
      go_wp2_with fail
      go_ret
      exact ⟨by simp [valE, HS1.out], (by repeat (first | exact Below.refl _ _ | apply pw_below_drewN | apply below_drew1 | apply below_alloc))⟩
    · have HS1 := Aside0.mk hs1
      clear hs1
      go_wp2_with fail
      refine (isSet_any A0 c0 l0 300 _ (by repeat (first | exact HR0.out | (with_reducible refine Kd.C_alloc ?_ _) | (with_reducible refine Kd.C_drewN ?_ _) | (with_reducible refine Kd.C_drew ?_))) HC0.out).mono ?_
      rintro e w' ⟨rfl, ⟨n, rfl⟩⟩
      simp only [HS.out]
      go_wp2_with fail
      refine (isSet_any A1 c1 l1 300 _ (by repeat (first | exact HR1.out | (with_reducible refine Kd.C_alloc ?_ _) | (with_reducible refine Kd.C_drewN ?_ _) | (with_reducible refine Kd.C_drew ?_))) HC1.out).mono ?_
      rintro e w' ⟨rfl, ⟨n2, rfl⟩⟩
      simp only [HS1.out]
      go_wp2_with fail
      refine (joined_calls 50 (fun a b => a && !b) enters50 inFirst_any A0 c0 l0 A1 c1 l1 _ (by repeat (first | exact HR0.out | (with_reducible refine Kd.C_alloc ?_ _) | (with_reducible refine Kd.C_drewN ?_ _) | (with_reducible refine Kd.C_drew ?_))) HC0.out (by repeat (first | exact HR1.out | (with_reducible refine Kd.C_alloc ?_ _) | (with_reducible refine Kd.C_drewN ?_ _) | (with_reducible refine Kd.C_drew ?_))) HC1.out ?_ ?_).mono ?_
      · have := setB_length HS.out; omega
      · have := setB_length HS1.out; omega
      rintro e w' ⟨v, rfl, hO, hB⟩
      obtain ⟨A, c, rfl⟩ := Kd.R_slice hO
      have HB := Aside0.mk hB
      clear hB hO
      have hl : joinF (fun a b => a && !b) l0 l1 = lessF l0 l1 := rfl
      rw [hl]
      have HL := Aside0.mk hl
      clear hl
      cases hL : lessF l0 l1
      all_goals
        have HLL := Aside0.mk hL
        clear hL
        go_wp2_with fail
        go_ret
        exact ⟨by simp [valE, HS.out, HS1.out, HLL.out], below_step (by repeat (first | exact Below.refl _ _ | apply pw_below_drewN | apply below_drew1 | apply below_alloc)) HB.out⟩
/-- A slice of ints that is read. -/
def Rd (w : World) (v : Value) (xs : List Int) : Prop := ∃ A c, v = .slice A xs.length c ∧ xs.length ≤ c ∧ Kd.C (Kd.int .i64) w A xs.length xs
theorem Rd.below {w w1 : World} {v : Value} {xs : List Int} (h : Rd w v xs) (hb : Below w.heap.size w w1) : Rd w1 v xs := by
  obtain ⟨A, c, rfl, hc, h⟩ := h
  exact ⟨A, c, rfl, hc, Kd.C_below h hb⟩
theorem Rd.of_R {w : World} {v : Value} {xs : List Int} {base : Nat} {ok : Nat → Prop} (h : Kd.R (Kd.int .i64) 3 w base ok v xs) : Rd w v xs := by
  obtain ⟨A, c, he, hl, hr⟩ := Kd.R_reads h
  exact ⟨A, c, he, hl, hr⟩
theorem Rd.nil (w : World) : Rd w (.slice none 0 0) [] := ⟨none, 0, rfl, by simp, Kd.C_nil _ _⟩
theorem Rd.drew {w : World} {v : Value} {xs : List Int} (h : Rd w v xs) : Rd w.drew v xs := h
/-- A row of ints that was made from block n on. -/
def Own (w : World) (n : Nat) (v : Value) (xs : List Int) : Prop := Kd.R (Kd.int .i64) 3 w n (fun _ => True) v xs
theorem Own.nil (w : World) (n : Nat) : Own w n (.slice none 0 0) [] := Kd.R_nil _ _ _ _ _
theorem Own.below {w w1 : World} {n : Nat} {v : Value} {xs : List Int} (h : Own w n v xs) (hb : Below w.heap.size w w1) : Own w1 n v xs := Kd.R_below h hb
theorem Own.lower {w : World} {n m : Nat} {v : Value} {xs : List Int} (h : Own w n v xs) (hb : m ≤ n) : Own w m v xs := Kd.R_lower h hb
theorem Own.set {w : World} {n : Nat} {v : Value} {xs : List Int} (h : Own w n v xs) {g : Nat} (hg : g < n) (i : Nat) (u : Value) : Own (w.setCell ⟨g, i, none⟩ u) n v xs :=
  Kd.R_mono (Kd.R_far (p := ⟨g, i, none⟩) (Kd.R_mono (ok' := fun k => n ≤ k) (Kd.R_bound h) (fun k hk => hk.2.1)) (fun k hk => by show k ≠ g; omega) u) (fun _ _ => trivial)
theorem Own.rd {w : World} {n : Nat} {v : Value} {xs : List Int} (h : Own w n v xs) : Rd w v xs := Rd.of_R h
theorem Own.slice {w : World} {n : Nat} {v : Value} {xs : List Int} (h : Own w n v xs) : ∃ A c, v = .slice A xs.length c ∧ xs.length ≤ c ∧ Kd.C (Kd.int .i64) w A xs.length xs := h.rd
theorem ext_of_below {w w1 : World} (h : Below w.heap.size w w1) : Ext w w1 := fun k hk => h.block k hk

/-- What both answers: the error, and what is known. -/
def bothE (l0 l1 m0 m1 : List Int) : Int := if valE l0 l1 = 0 then valE m0 m1 else valE l0 l1
def bothL (f : Bool → Bool → Bool) (l0 l1 m0 m1 a b : List Int) : List Int := if valE l0 l1 = 0 ∧ valE m0 m1 = 0 then joinF f a b else []
theorem blks3 (w : World) (o1 o2 o3 : Obj) (w1 : World) (hb : Below (((w.alloc o1).alloc o2).alloc o3).heap.size (((w.alloc o1).alloc o2).alloc o3) w1) :
    w1.heap[w.heap.size]? = some o1 ∧ w1.heap[w.heap.size + 1]? = some o2 ∧ w1.heap[w.heap.size + 1 + 1]? = some o3 ∧ Below w.heap.size w w1 := by
  refine ⟨?_, ?_, ?_, below_step (by repeat (first | exact Below.refl _ _ | apply pw_below_drewN | apply below_drew1 | apply below_alloc)) hb⟩
  · exact blk_below (blk_new w o1) (below_step (by repeat (first | exact Below.refl _ _ | apply pw_below_drewN | apply below_drew1 | apply below_alloc)) hb)
  · have := blk_below (blk_new (w.alloc o1) o2) (below_step (below_alloc (Below.refl _ _) o3) hb)
    simpa using this
  · have := blk_below (blk_new ((w.alloc o1).alloc o2) o3) hb
    simpa using this
theorem blks2 (w : World) (o1 o2 : Obj) (w1 : World) (hb : Below ((w.alloc o1).alloc o2).heap.size ((w.alloc o1).alloc o2) w1) :
    w1.heap[w.heap.size]? = some o1 ∧ w1.heap[w.heap.size + 1]? = some o2 ∧ Below w.heap.size w w1 := by
  refine ⟨?_, ?_, below_step (by repeat (first | exact Below.refl _ _ | apply pw_below_drewN | apply below_drew1 | apply below_alloc)) hb⟩
  · exact blk_below (blk_new w o1) (below_step (by repeat (first | exact Below.refl _ _ | apply pw_below_drewN | apply below_drew1 | apply below_alloc)) hb)
  · have := blk_below (blk_new (w.alloc o1) o2) hb
    simpa using this

set_option maxHeartbeats 4000000 in
set_option maxRecDepth 100000 in
theorem both_any (g : FuncId) (f : Bool → Bool → Bool) (hE : ∀ args W, (callFunc g args).run Try.prog W = .ok (.enter g args) W)
    (HG : ∀ x y W, Calls Try.prog g #[.bool x, .bool y] W fun e W' => e = .returned (.bool (f x y)) ∧ W = W')
    (A0 : Option Addr) (c0 : Nat) (l0 : List Int) (A1 : Option Addr) (c1 : Nat) (l1 : List Int) (B0 : Option Addr) (d0 : Nat) (m0 : List Int) (B1 : Option Addr) (d1 : Nat) (m1 : List Int) (w : World)
    (hr0 : Kd.C (Kd.int .i64) w A0 l0.length l0) (hc0 : l0.length ≤ c0) (hr1 : Kd.C (Kd.int .i64) w A1 l1.length l1) (hc1 : l1.length ≤ c1)
    (hs0 : Kd.C (Kd.int .i64) w B0 m0.length m0) (hd0 : m0.length ≤ d0) (hs1 : Kd.C (Kd.int .i64) w B1 m1.length m1) (hd1 : m1.length ≤ d1) :
    Calls Try.prog 52 #[.agg #[.slice A0 l0.length c0, .slice A1 l1.length c1], .agg #[.slice B0 m0.length d0, .slice B1 m1.length d1], .func (.func g) #[] #[]] w fun e w' => ∃ v0 v1 : Value,
      e = .returned (.tuple #[.agg #[v0, v1], .int .i64 (bothE l0 l1 m0 m1)]) ∧
      Own w' w.heap.size v0 (bothL f l0 l1 m0 m1 l0 m0) ∧ Own w' w.heap.size v1 (bothL f l0 l1 m0 m1 l1 m1) ∧ Below w.heap.size w w' := by
  have HR0 := Aside0.mk hr0
  have HC0 := Aside0.mk hc0
  have HR1 := Aside0.mk hr1
  have HC1 := Aside0.mk hc1
  have HS0 := Aside0.mk hs0
  have HD0 := Aside0.mk hd0
  have HS1 := Aside0.mk hs1
  have HD1 := Aside0.mk hd1
  clear hr0 hc0 hr1 hc1 hs0 hd0 hs1 hd1
  have hu29 := Try.underlying29
  go_enter Try.func52, Try.ntmps52
  by_cases hv : valE l0 l1 = 0
  · have HV := Aside0.mk hv
    have hv1 : (valE l0 l1 == 0) = true := by simpa using hv
    have hv2 : (valE l0 l1 != 0) = false := by simpa using hv
    clear hv
    go_wp2_with fail
    refine (Validate_any A0 c0 l0 A1 c1 l1 _ (by repeat (first | exact HR0.out | (with_reducible refine Kd.C_alloc ?_ _) | (with_reducible refine Kd.C_drewN ?_ _) | (with_reducible refine Kd.C_drew ?_))) HC0.out (by repeat (first | exact HR1.out | (with_reducible refine Kd.C_alloc ?_ _) | (with_reducible refine Kd.C_drewN ?_ _) | (with_reducible refine Kd.C_drew ?_))) HC1.out).mono ?_
    rintro e w1 ⟨rfl, hb⟩
    obtain ⟨b0, b1, b2, hB⟩ := blks3 _ _ _ _ _ hb
    have HB := Aside0.mk hB
    have B0' := Aside0.mk b0
    have B1' := Aside0.mk b1
    have B2 := Aside0.mk b2
    have hc2 : w1.cell? ⟨w.heap.size + 1, 0, none⟩ = some (.slice B0 m0.length d0) := (blk_cell b1 0).trans rfl
    have hc3 : w1.cell? ⟨w.heap.size + 1, 1, none⟩ = some (.slice B1 m1.length d1) := (blk_cell b1 1).trans rfl
    clear hb b0 b1 b2 hB
    by_cases hw : valE m0 m1 = 0
    · have HW := Aside0.mk hw
      have hw1 : (valE m0 m1 == 0) = true := by simpa using hw
      have hw2 : (valE m0 m1 != 0) = false := by simpa using hw
      clear hw
      have HN : Aside0 (l0.length ≤ 3000 ∧ l1.length ≤ 3000 ∧ m0.length ≤ 3000 ∧ m1.length ≤ 3000) := ⟨by
        have h1 := HV.out
        have h2 := HW.out
        unfold valE at h1 h2
        split at h1
        · rename_i h3
          split at h2
          · rename_i h4
            have := setB_length h3.1
            have := setB_length h3.2.1
            have := setB_length h4.1
            have := setB_length h4.2.1
            omega
          · simp at h2
        · simp at h1⟩
      go_wp2_with fail
      refine (Validate_any B0 d0 m0 B1 d1 m1 _ (Kd.C_below HS0.out HB.out) HD0.out (Kd.C_below HS1.out HB.out) HD1.out).mono ?_
      rintro e w2 ⟨rfl, hb⟩
      have b0 := blk_below B0'.out hb
      have b1 := blk_below B1'.out hb
      have b2 := blk_below B2.out hb
      have HB2 := Aside0.mk (below_step HB.out hb)
      clear hb hc2 hc3
      have B22 := Aside0.mk b2
      have hc0 : w2.cell? ⟨w.heap.size, 0, none⟩ = some (.slice A0 l0.length c0) := (blk_cell b0 0).trans rfl
      have hc1 : w2.cell? ⟨w.heap.size, 1, none⟩ = some (.slice A1 l1.length c1) := (blk_cell b0 1).trans rfl
      have hc2 : w2.cell? ⟨w.heap.size + 1, 0, none⟩ = some (.slice B0 m0.length d0) := (blk_cell b1 0).trans rfl
      have hc3 : w2.cell? ⟨w.heap.size + 1, 1, none⟩ = some (.slice B1 m1.length d1) := (blk_cell b1 1).trans rfl
      clear b0 b1 b2
      go_wp2_with fail
      refine wp_region_segs (by kernel_rfl) [(false, [0, 2, 4, 6, 8, 10, 1, 3, 7, 9]), (true, [5]), (false, [11, 12, 13, 14])] (by decide) (by kernel_rfl) ?_
      simp only [wpSegs, pickOps, List.getElem?_toArray, List.getElem?_cons_succ, List.getElem?_cons_zero, Bool.false_eq_true, false_implies, true_and, forall_const]
      go_wp2_with fail
      refine (joined_calls g f hE HG A0 c0 l0 B0 d0 m0 _ (Kd.C_below HR0.out (below_drew1 HB2.out)) HC0.out (Kd.C_below HS0.out (below_drew1 HB2.out)) HD0.out HN.out.1 HN.out.2.2.1).mono ?_
      rintro e w3 ⟨v0, rfl, ho, hb⟩
      have HX := Aside0.mk (ext_of_below hb)
      have B23 := Aside0.mk (blk_below (blk_drew B22.out) hb)
      have HB3 := Aside0.mk (below_step (below_drew1 HB2.out) hb)
      have HS2 : w.heap.size + 1 + 1 < w2.drew.heap.size := blk_lt (blk_drew B22.out)
      have HO : Aside0 (Own w3 w2.drew.heap.size v0 (joinF f l0 m0)) := ⟨ho⟩
      have HSz := Aside0.mk HS2
      have HSy := Aside0.mk (Nat.le_trans (Nat.le_of_lt HS2) hb.size)
      have HSx := Aside0.mk (blk_lt B23.out)
      clear HS2
      obtain ⟨A2, c2, rfl⟩ := Kd.R_slice ho
      clear hc0 hc1 hc2 hc3 ho hb
      go_wp2_with fail
      refine ⟨HX.out, ?_⟩
      go_wp2_with fail
      refine (joined_calls g f hE HG A1 c1 l1 B1 d1 m1 _ (Kd.C_below HR1.out HB3.out) HC1.out (Kd.C_below HS1.out HB3.out) HD1.out HN.out.2.1 HN.out.2.2.2).mono ?_
      rintro e w4 ⟨v1, rfl, ho, hb⟩
      have b2 := blk_below B23.out hb
      have B24 := Aside0.mk b2
      have HB4 := Aside0.mk (below_step HB3.out hb)
      have HO' := Aside0.mk (HO.out.below hb)
      have HP : Aside0 (Own w4 w3.heap.size v1 (joinF f l1 m1)) := ⟨ho⟩
      obtain ⟨A3, c3, rfl⟩ := Kd.R_slice ho
      have hc0 : w4.cell? ⟨w.heap.size + 1 + 1, 0, none⟩ = some (.slice none 0 0) := (blk_cell b2 0).trans rfl
      have hc1 : w4.cell? ⟨w.heap.size + 1 + 1, 1, none⟩ = some (.slice none 0 0) := (blk_cell b2 1).trans rfl
      have hf0 := blk_frozen b2 0
      have hf1 := blk_frozen b2 1
      clear b2 ho hb
      go_wp2_with fail
      refine ⟨rfl, by kernel_rfl, ?_⟩
      go_wp2_with fail
      refine bodyPost_ret (results_ct rfl _ _ (w.heap.size + 1 + 1) 29 #[.slice A2 (joinF f l0 m0).length c2, .slice A3 (joinF f l1 m1).length c3] (0, 0) _ rfl (blk_put (cs := #[.slice A2 (joinF f l0 m0).length c2, .slice none 0 0]) (blk_put (cs := #[.slice none 0 0, .slice none 0 0]) B24.out 0 _ rfl) 1 _ rfl) Try.underlying29 rfl (by kernel_rfl)) rfl ?_
      refine ⟨_, _, by rw [bothE, if_pos HV.out, HW.out]; rfl, ?_, ?_, ?_⟩
      · simp only [bothL, HV.out, HW.out, and_self, if_true]
        exact Own.lower (Own.set (Own.set HO'.out HSz.out _ _) HSz.out _ _) (by have := HSz.out; omega)
      · simp only [bothL, HV.out, HW.out, and_self, if_true]
        exact Own.lower (Own.set (Own.set HP.out HSx.out _ _) HSx.out _ _) (by have := HSx.out; omega)
      · exact below_set (below_set HB4.out (by omega)) (by omega)
    · have HW := Aside0.mk hw
      have hw1 : (valE m0 m1 == 0) = false := by simpa using hw
      have hw2 : (valE m0 m1 != 0) = true := by simpa using hw
      clear hw
      go_wp2_with fail
      refine (Validate_any B0 d0 m0 B1 d1 m1 _ (Kd.C_below HS0.out HB.out) HD0.out (Kd.C_below HS1.out HB.out) HD1.out).mono ?_
      rintro e w2 ⟨rfl, hb⟩
      have b2 := blk_below B2.out hb
      have HB2 := Aside0.mk (below_step HB.out hb)
      clear hb hc2 hc3
      have B22 := Aside0.mk b2
      have hc0 : w2.cell? ⟨w.heap.size + 1 + 1, 0, none⟩ = some (.slice none 0 0) := (blk_cell b2 0).trans rfl
      have hc1 : w2.cell? ⟨w.heap.size + 1 + 1, 1, none⟩ = some (.slice none 0 0) := (blk_cell b2 1).trans rfl
      have hf0 := blk_frozen b2 0
      have hf1 := blk_frozen b2 1
      clear b2
      go_wp2_with fail
      refine bodyPost_ret (results_ct rfl _ _ (w.heap.size + 1 + 1) 29 #[.slice none 0 0, .slice none 0 0] (0, 0) _ rfl (blk_put (cs := #[.slice none 0 0, .slice none 0 0]) (blk_put (cs := #[.slice none 0 0, .slice none 0 0]) B22.out 0 _ rfl) 1 _ rfl) Try.underlying29 rfl (by kernel_rfl)) rfl ?_
      refine ⟨.slice none 0 0, .slice none 0 0, by rw [bothE, if_pos HV.out]; rfl, ?_, ?_, ?_⟩
      · simp only [bothL, HW.out, and_false, if_false]; exact Own.nil _ _
      · simp only [bothL, HW.out, and_false, if_false]; exact Own.nil _ _
      · exact below_set (below_set HB2.out (by omega)) (by omega)
  · have HV := Aside0.mk hv
    have hv1 : (valE l0 l1 == 0) = false := by simpa using hv
    have hv2 : (valE l0 l1 != 0) = true := by simpa using hv
    clear hv
    go_wp2_with fail
    refine (Validate_any A0 c0 l0 A1 c1 l1 _ (by repeat (first | exact HR0.out | (with_reducible refine Kd.C_alloc ?_ _) | (with_reducible refine Kd.C_drewN ?_ _) | (with_reducible refine Kd.C_drew ?_))) HC0.out (by repeat (first | exact HR1.out | (with_reducible refine Kd.C_alloc ?_ _) | (with_reducible refine Kd.C_drewN ?_ _) | (with_reducible refine Kd.C_drew ?_))) HC1.out).mono ?_
    rintro e w1 ⟨rfl, hb⟩
    obtain ⟨b0, b1, b2, hB⟩ := blks3 _ _ _ _ _ hb
    have HB := Aside0.mk hB
    have B2 := Aside0.mk b2
    have hc0 : w1.cell? ⟨w.heap.size + 1 + 1, 0, none⟩ = some (.slice none 0 0) := (blk_cell b2 0).trans rfl
    have hc1 : w1.cell? ⟨w.heap.size + 1 + 1, 1, none⟩ = some (.slice none 0 0) := (blk_cell b2 1).trans rfl
    have hf0 := blk_frozen b2 0
    have hf1 := blk_frozen b2 1
    clear hb b0 b1 b2 hB
    go_wp2_with fail
    refine bodyPost_ret (results_ct rfl _ _ (w.heap.size + 1 + 1) 29 #[.slice none 0 0, .slice none 0 0] (0, 0) _ rfl (blk_put (cs := #[.slice none 0 0, .slice none 0 0]) (blk_put (cs := #[.slice none 0 0, .slice none 0 0]) B2.out 0 _ rfl) 1 _ rfl) Try.underlying29 rfl (by kernel_rfl)) rfl ?_
    refine ⟨.slice none 0 0, .slice none 0 0, by rw [bothE, if_neg HV.out]; rfl, ?_, ?_, ?_⟩
    · simp only [bothL, HV.out, false_and, if_false]; exact Own.nil _ _
    · simp only [bothL, HV.out, false_and, if_false]; exact Own.nil _ _
    · exact below_set (below_set HB.out (by omega)) (by omega)
end Go.Proofs.Ytpbdlkbiiglkdaa

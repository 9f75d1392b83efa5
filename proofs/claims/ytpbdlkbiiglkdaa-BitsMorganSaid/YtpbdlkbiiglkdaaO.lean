/- The law BitsJoins, walked. -/
import Derived.Test.YtpbdlkbiiglkdaaN
set_option linter.unusedVariables false
set_option linter.unusedSimpArgs false
namespace Go.Proofs.Ytpbdlkbiiglkdaa
open Go.RowKit Go.Proofs.YtpbdlkbiiglkdaaW.PrintWords Go.Proofs.YtpbdlkbiiglkdaaW.PrintLast Go.Proofs.YtpbdlkbiiglkdaaW.PrintMore Go.Proofs.Cab

/-- Knowledge in a box of its own. -/
def Held (w : World) (b : Nat) (v0 v1 : Value) : Prop := w.heap[b]? = some (.cells #[v0, v1] 29 (0, 0)) ∧ b < w.heap.size
theorem Held.new (w : World) (v0 v1 : Value) : Held (w.alloc (.cells #[v0, v1] 29)) w.heap.size v0 v1 := ⟨blk_new _ _, by rw [alloc_size]; omega⟩
theorem Held.below {w w1 : World} {b : Nat} {v0 v1 : Value} (h : Held w b v0 v1) (hb : Below w.heap.size w w1) : Held w1 b v0 v1 := ⟨(hb.block b h.2).trans h.1, Nat.lt_of_lt_of_le h.2 hb.size⟩
theorem Held.alloc {w : World} {b : Nat} {v0 v1 : Value} (h : Held w b v0 v1) (o : Obj) : Held (w.alloc o) b v0 v1 := h.below (below_alloc (Below.refl _ _) _)
theorem Held.c0 {w : World} {b : Nat} {v0 v1 : Value} (h : Held w b v0 v1) : w.cell? ⟨b, 0, none⟩ = some v0 := (blk_cell h.1 0).trans rfl
theorem Held.c1 {w : World} {b : Nat} {v0 v1 : Value} (h : Held w b v0 v1) : w.cell? ⟨b, 1, none⟩ = some v1 := (blk_cell h.1 1).trans rfl
theorem Held.at_ {w : World} {b n : Nat} {v0 v1 : Value} (h : Held w b v0 v1) (e : b = n) : Held w n v0 v1 := e ▸ h

set_option maxHeartbeats 4000000 in
set_option maxRecDepth 100000 in
theorem BitsJoins_any (Ax0 : Option Addr) (cx0 : Nat) (lx0 : List Int) (Ax1 : Option Addr) (cx1 : Nat) (lx1 : List Int) (Ay0 : Option Addr) (cy0 : Nat) (ly0 : List Int) (Ay1 : Option Addr) (cy1 : Nat) (ly1 : List Int) (w : World) (hrx0 : Kd.C (Kd.int .i64) w Ax0 lx0.length lx0) (hcx0 : lx0.length ≤ cx0) (hrx1 : Kd.C (Kd.int .i64) w Ax1 lx1.length lx1) (hcx1 : lx1.length ≤ cx1) (hry0 : Kd.C (Kd.int .i64) w Ay0 ly0.length ly0) (hcy0 : ly0.length ≤ cy0) (hry1 : Kd.C (Kd.int .i64) w Ay1 ly1.length ly1) (hcy1 : ly1.length ≤ cy1) :
    Calls Try.prog 4 #[.agg #[.slice Ax0 lx0.length cx0, .slice Ax1 lx1.length cx1], .agg #[.slice Ay0 ly0.length cy0, .slice Ay1 ly1.length cy1]] w fun e w' => e = .returned (.bool true) ∧ Below w.heap.size w w' := by
  have HRx0 := Aside0.mk hrx0
  have HCx0 := Aside0.mk hcx0
  have HRx1 := Aside0.mk hrx1
  have HCx1 := Aside0.mk hcx1
  have HRy0 := Aside0.mk hry0
  have HCy0 := Aside0.mk hcy0
  have HRy1 := Aside0.mk hry1
  have HCy1 := Aside0.mk hcy1
  clear hrx0 hcx0 hrx1 hcx1 hry0 hcy0 hry1 hcy1
  have hu22 := Try.underlying22
  have hu29 := Try.underlying29
  have HB := Aside0.mk (Below.refl w.heap.size w)
  go_enter Try.func4, Try.ntmps4
  have hb : Below w.heap.size w (w.alloc (.cells #[.slice Ax0 lx0.length cx0, .slice Ax1 lx1.length cx1] 29)) := below_alloc (Below.refl _ _) _
  replace HB := Aside0.mk (below_step HB.out hb)
  replace HRx0 := Aside0.mk (Kd.C_below HRx0.out hb)
  replace HRx1 := Aside0.mk (Kd.C_below HRx1.out hb)
  replace HRy0 := Aside0.mk (Kd.C_below HRy0.out hb)
  replace HRy1 := Aside0.mk (Kd.C_below HRy1.out hb)
  clear hb
  have KX : Aside0 (Held (w.alloc (.cells #[.slice Ax0 lx0.length cx0, .slice Ax1 lx1.length cx1] 29)) (w.heap.size) (.slice Ax0 lx0.length cx0) (.slice Ax1 lx1.length cx1)) := ⟨Held.new _ _ _⟩
  have hb : Below (w.alloc (.cells #[.slice Ax0 lx0.length cx0, .slice Ax1 lx1.length cx1] 29)).heap.size (w.alloc (.cells #[.slice Ax0 lx0.length cx0, .slice Ax1 lx1.length cx1] 29)) ((w.alloc (.cells #[.slice Ax0 lx0.length cx0, .slice Ax1 lx1.length cx1] 29)).alloc (.cells #[.slice Ay0 ly0.length cy0, .slice Ay1 ly1.length cy1] 29)) := below_alloc (Below.refl _ _) _
  replace HB := Aside0.mk (below_step HB.out hb)
  replace HRx0 := Aside0.mk (Kd.C_below HRx0.out hb)
  replace HRx1 := Aside0.mk (Kd.C_below HRx1.out hb)
  replace HRy0 := Aside0.mk (Kd.C_below HRy0.out hb)
  replace HRy1 := Aside0.mk (Kd.C_below HRy1.out hb)
  replace KX := Aside0.mk (KX.out.below hb)
  clear hb
  have KY : Aside0 (Held ((w.alloc (.cells #[.slice Ax0 lx0.length cx0, .slice Ax1 lx1.length cx1] 29)).alloc (.cells #[.slice Ay0 ly0.length cy0, .slice Ay1 ly1.length cy1] 29)) (w.heap.size + 1) (.slice Ay0 ly0.length cy0) (.slice Ay1 ly1.length cy1)) := ⟨(Held.new _ _ _).at_ (alloc_size _ _)⟩
  have hX0 := KX.out.c0
  have hX1 := KX.out.c1
  have hY0 := KY.out.c0
  have hY1 := KY.out.c1
  go_wp2_with fail
  clear hX0 hX1 hY0 hY1
  generalize ((w.alloc (.cells #[.slice Ax0 lx0.length cx0, .slice Ax1 lx1.length cx1] 29)).alloc (.cells #[.slice Ay0 ly0.length cy0, .slice Ay1 ly1.length cy1] 29)) = w1 at *
  refine (over_any Ax0 cx0 lx0 Ax1 cx1 lx1 _ HRx0.out HCx0.out HRx1.out HCx1.out).mono ?_
  rintro e w2 ⟨rfl, hb⟩
  replace HB := Aside0.mk (below_step HB.out hb)
  replace HRx0 := Aside0.mk (Kd.C_below HRx0.out hb)
  replace HRx1 := Aside0.mk (Kd.C_below HRx1.out hb)
  replace HRy0 := Aside0.mk (Kd.C_below HRy0.out hb)
  replace HRy1 := Aside0.mk (Kd.C_below HRy1.out hb)
  replace KX := Aside0.mk (KX.out.below hb)
  replace KY := Aside0.mk (KY.out.below hb)
  clear hb
  cases hovx : overB lx0 lx1
  · have ovx := overB_false hovx
    have hY0 := KY.out.c0
    have hY1 := KY.out.c1
    go_wp2_with fail
    clear hY0 hY1
    refine (over_any Ay0 cy0 ly0 Ay1 cy1 ly1 _ HRy0.out HCy0.out HRy1.out HCy1.out).mono ?_
    rintro e w3 ⟨rfl, hb⟩
    replace HB := Aside0.mk (below_step HB.out hb)
    replace HRx0 := Aside0.mk (Kd.C_below HRx0.out hb)
    replace HRx1 := Aside0.mk (Kd.C_below HRx1.out hb)
    replace HRy0 := Aside0.mk (Kd.C_below HRy0.out hb)
    replace HRy1 := Aside0.mk (Kd.C_below HRy1.out hb)
    replace KX := Aside0.mk (KX.out.below hb)
    replace KY := Aside0.mk (KY.out.below hb)
    clear hb
    cases hovy : overB ly0 ly1
    · have ovy := overB_false hovy
      have hX0 := KX.out.c0
      have hX1 := KX.out.c1
      have hY0 := KY.out.c0
      have hY1 := KY.out.c1
      go_wp2_with fail
      clear hX0 hX1 hY0 hY1
      refine (And_any Ax0 cx0 lx0 Ax1 cx1 lx1 Ay0 cy0 ly0 Ay1 cy1 ly1 _ HRx0.out HCx0.out HRx1.out HCx1.out HRy0.out HCy0.out HRy1.out HCy1.out).mono ?_
      rintro e w4 ⟨v0, v1, rfl, ho0, ho1, hb⟩
      replace HB := Aside0.mk (below_step HB.out hb)
      replace HRx0 := Aside0.mk (Kd.C_below HRx0.out hb)
      replace HRx1 := Aside0.mk (Kd.C_below HRx1.out hb)
      replace HRy0 := Aside0.mk (Kd.C_below HRy0.out hb)
      replace HRy1 := Aside0.mk (Kd.C_below HRy1.out hb)
      replace KX := Aside0.mk (KX.out.below hb)
      replace KY := Aside0.mk (KY.out.below hb)
      clear hb
      obtain ⟨Lp0, hLp0⟩ : ∃ L, bothL (fun a b => a && b) lx0 lx1 ly0 ly1 lx0 ly0 = L := ⟨_, rfl⟩
      rw [hLp0] at ho0
      obtain ⟨Ap0, cp0, rfl, hcp0, hrp0⟩ := ho0.slice
      have HRp0 := Aside0.mk hrp0
      have HCp0 := Aside0.mk hcp0
      clear ho0 hrp0 hcp0
      obtain ⟨Lp1, hLp1⟩ : ∃ L, bothL (fun a b => a && b) lx0 lx1 ly0 ly1 lx1 ly1 = L := ⟨_, rfl⟩
      rw [hLp1] at ho1
      obtain ⟨Ap1, cp1, rfl, hcp1, hrp1⟩ := ho1.slice
      have HRp1 := Aside0.mk hrp1
      have HCp1 := Aside0.mk hcp1
      clear ho1 hrp1 hcp1
      have hb : Below w4.heap.size w4 (w4.alloc (.cells #[.slice Ap0 Lp0.length cp0, .slice Ap1 Lp1.length cp1] 29)) := below_alloc (Below.refl _ _) _
      replace HB := Aside0.mk (below_step HB.out hb)
      replace HRx0 := Aside0.mk (Kd.C_below HRx0.out hb)
      replace HRx1 := Aside0.mk (Kd.C_below HRx1.out hb)
      replace HRy0 := Aside0.mk (Kd.C_below HRy0.out hb)
      replace HRy1 := Aside0.mk (Kd.C_below HRy1.out hb)
      replace HRp0 := Aside0.mk (Kd.C_below HRp0.out hb)
      replace HRp1 := Aside0.mk (Kd.C_below HRp1.out hb)
      replace KX := Aside0.mk (KX.out.below hb)
      replace KY := Aside0.mk (KY.out.below hb)
      clear hb
      have KP : Aside0 (Held (w4.alloc (.cells #[.slice Ap0 Lp0.length cp0, .slice Ap1 Lp1.length cp1] 29)) (w4.heap.size) (.slice Ap0 Lp0.length cp0) (.slice Ap1 Lp1.length cp1)) := ⟨Held.new _ _ _⟩
      have hX0 := KX.out.c0
      have hX1 := KX.out.c1
      have hY0 := KY.out.c0
      have hY1 := KY.out.c1
      go_wp2_with fail
      clear hX0 hX1 hY0 hY1
      generalize (w4.alloc (.cells #[.slice Ap0 Lp0.length cp0, .slice Ap1 Lp1.length cp1] 29)) = w5 at *
      refine (AndR_any Ax0 cx0 lx0 Ax1 cx1 lx1 Ay0 cy0 ly0 Ay1 cy1 ly1 _ HRx0.out HCx0.out HRx1.out HCx1.out HRy0.out HCy0.out HRy1.out HCy1.out ovx.1 ovx.2 ovy.1 ovy.2).mono ?_
      rintro e w6 ⟨v0, v1, rfl, ho0, ho1, hb⟩
      replace HB := Aside0.mk (below_step HB.out hb)
      replace HRx0 := Aside0.mk (Kd.C_below HRx0.out hb)
      replace HRx1 := Aside0.mk (Kd.C_below HRx1.out hb)
      replace HRy0 := Aside0.mk (Kd.C_below HRy0.out hb)
      replace HRy1 := Aside0.mk (Kd.C_below HRy1.out hb)
      replace HRp0 := Aside0.mk (Kd.C_below HRp0.out hb)
      replace HRp1 := Aside0.mk (Kd.C_below HRp1.out hb)
      replace KX := Aside0.mk (KX.out.below hb)
      replace KY := Aside0.mk (KY.out.below hb)
      replace KP := Aside0.mk (KP.out.below hb)
      clear hb
      rw [hLp0] at ho0
      obtain ⟨Aq0, cq0, rfl, hcq0, hrq0⟩ := ho0.slice
      have HRq0 := Aside0.mk hrq0
      have HCq0 := Aside0.mk hcq0
      clear ho0 hrq0 hcq0
      rw [hLp1] at ho1
      obtain ⟨Aq1, cq1, rfl, hcq1, hrq1⟩ := ho1.slice
      have HRq1 := Aside0.mk hrq1
      have HCq1 := Aside0.mk hcq1
      clear ho1 hrq1 hcq1
      have hb : Below w6.heap.size w6 (w6.alloc (.cells #[.slice Aq0 Lp0.length cq0, .slice Aq1 Lp1.length cq1] 29)) := below_alloc (Below.refl _ _) _
      replace HB := Aside0.mk (below_step HB.out hb)
      replace HRx0 := Aside0.mk (Kd.C_below HRx0.out hb)
      replace HRx1 := Aside0.mk (Kd.C_below HRx1.out hb)
      replace HRy0 := Aside0.mk (Kd.C_below HRy0.out hb)
      replace HRy1 := Aside0.mk (Kd.C_below HRy1.out hb)
      replace HRp0 := Aside0.mk (Kd.C_below HRp0.out hb)
      replace HRp1 := Aside0.mk (Kd.C_below HRp1.out hb)
      replace HRq0 := Aside0.mk (Kd.C_below HRq0.out hb)
      replace HRq1 := Aside0.mk (Kd.C_below HRq1.out hb)
      replace KX := Aside0.mk (KX.out.below hb)
      replace KY := Aside0.mk (KY.out.below hb)
      replace KP := Aside0.mk (KP.out.below hb)
      clear hb
      have KQ : Aside0 (Held (w6.alloc (.cells #[.slice Aq0 Lp0.length cq0, .slice Aq1 Lp1.length cq1] 29)) (w6.heap.size) (.slice Aq0 Lp0.length cq0) (.slice Aq1 Lp1.length cq1)) := ⟨Held.new _ _ _⟩
      have hX0 := KX.out.c0
      have hX1 := KX.out.c1
      have hY0 := KY.out.c0
      have hY1 := KY.out.c1
      go_wp2_with fail
      clear hX0 hX1 hY0 hY1
      generalize (w6.alloc (.cells #[.slice Aq0 Lp0.length cq0, .slice Aq1 Lp1.length cq1] 29)) = w7 at *
      refine (Or_any Ax0 cx0 lx0 Ax1 cx1 lx1 Ay0 cy0 ly0 Ay1 cy1 ly1 _ HRx0.out HCx0.out HRx1.out HCx1.out HRy0.out HCy0.out HRy1.out HCy1.out).mono ?_
      rintro e w8 ⟨v0, v1, rfl, ho0, ho1, hb⟩
      replace HB := Aside0.mk (below_step HB.out hb)
      replace HRx0 := Aside0.mk (Kd.C_below HRx0.out hb)
      replace HRx1 := Aside0.mk (Kd.C_below HRx1.out hb)
      replace HRy0 := Aside0.mk (Kd.C_below HRy0.out hb)
      replace HRy1 := Aside0.mk (Kd.C_below HRy1.out hb)
      replace HRp0 := Aside0.mk (Kd.C_below HRp0.out hb)
      replace HRp1 := Aside0.mk (Kd.C_below HRp1.out hb)
      replace HRq0 := Aside0.mk (Kd.C_below HRq0.out hb)
      replace HRq1 := Aside0.mk (Kd.C_below HRq1.out hb)
      replace KX := Aside0.mk (KX.out.below hb)
      replace KY := Aside0.mk (KY.out.below hb)
      replace KP := Aside0.mk (KP.out.below hb)
      replace KQ := Aside0.mk (KQ.out.below hb)
      clear hb
      obtain ⟨Lr0, hLr0⟩ : ∃ L, bothL (fun a b => a || b) lx0 lx1 ly0 ly1 lx0 ly0 = L := ⟨_, rfl⟩
      rw [hLr0] at ho0
      obtain ⟨Ar0, cr0, rfl, hcr0, hrr0⟩ := ho0.slice
      have HRr0 := Aside0.mk hrr0
      have HCr0 := Aside0.mk hcr0
      clear ho0 hrr0 hcr0
      obtain ⟨Lr1, hLr1⟩ : ∃ L, bothL (fun a b => a || b) lx0 lx1 ly0 ly1 lx1 ly1 = L := ⟨_, rfl⟩
      rw [hLr1] at ho1
      obtain ⟨Ar1, cr1, rfl, hcr1, hrr1⟩ := ho1.slice
      have HRr1 := Aside0.mk hrr1
      have HCr1 := Aside0.mk hcr1
      clear ho1 hrr1 hcr1
      have hb : Below w8.heap.size w8 (w8.alloc (.cells #[.slice Ar0 Lr0.length cr0, .slice Ar1 Lr1.length cr1] 29)) := below_alloc (Below.refl _ _) _
      replace HB := Aside0.mk (below_step HB.out hb)
      replace HRx0 := Aside0.mk (Kd.C_below HRx0.out hb)
      replace HRx1 := Aside0.mk (Kd.C_below HRx1.out hb)
      replace HRy0 := Aside0.mk (Kd.C_below HRy0.out hb)
      replace HRy1 := Aside0.mk (Kd.C_below HRy1.out hb)
      replace HRp0 := Aside0.mk (Kd.C_below HRp0.out hb)
      replace HRp1 := Aside0.mk (Kd.C_below HRp1.out hb)
      replace HRq0 := Aside0.mk (Kd.C_below HRq0.out hb)
      replace HRq1 := Aside0.mk (Kd.C_below HRq1.out hb)
      replace HRr0 := Aside0.mk (Kd.C_below HRr0.out hb)
      replace HRr1 := Aside0.mk (Kd.C_below HRr1.out hb)
      replace KX := Aside0.mk (KX.out.below hb)
      replace KY := Aside0.mk (KY.out.below hb)
      replace KP := Aside0.mk (KP.out.below hb)
      replace KQ := Aside0.mk (KQ.out.below hb)
      clear hb
      have KR : Aside0 (Held (w8.alloc (.cells #[.slice Ar0 Lr0.length cr0, .slice Ar1 Lr1.length cr1] 29)) (w8.heap.size) (.slice Ar0 Lr0.length cr0) (.slice Ar1 Lr1.length cr1)) := ⟨Held.new _ _ _⟩
      have hX0 := KX.out.c0
      have hX1 := KX.out.c1
      have hY0 := KY.out.c0
      have hY1 := KY.out.c1
      go_wp2_with fail
      clear hX0 hX1 hY0 hY1
      generalize (w8.alloc (.cells #[.slice Ar0 Lr0.length cr0, .slice Ar1 Lr1.length cr1] 29)) = w9 at *
      refine (OrR_any Ax0 cx0 lx0 Ax1 cx1 lx1 Ay0 cy0 ly0 Ay1 cy1 ly1 _ HRx0.out HCx0.out HRx1.out HCx1.out HRy0.out HCy0.out HRy1.out HCy1.out ovx.1 ovx.2 ovy.1 ovy.2).mono ?_
      rintro e w10 ⟨v0, v1, rfl, ho0, ho1, hb⟩
      replace HB := Aside0.mk (below_step HB.out hb)
      replace HRx0 := Aside0.mk (Kd.C_below HRx0.out hb)
      replace HRx1 := Aside0.mk (Kd.C_below HRx1.out hb)
      replace HRy0 := Aside0.mk (Kd.C_below HRy0.out hb)
      replace HRy1 := Aside0.mk (Kd.C_below HRy1.out hb)
      replace HRp0 := Aside0.mk (Kd.C_below HRp0.out hb)
      replace HRp1 := Aside0.mk (Kd.C_below HRp1.out hb)
      replace HRq0 := Aside0.mk (Kd.C_below HRq0.out hb)
      replace HRq1 := Aside0.mk (Kd.C_below HRq1.out hb)
      replace HRr0 := Aside0.mk (Kd.C_below HRr0.out hb)
      replace HRr1 := Aside0.mk (Kd.C_below HRr1.out hb)
      replace KX := Aside0.mk (KX.out.below hb)
      replace KY := Aside0.mk (KY.out.below hb)
      replace KP := Aside0.mk (KP.out.below hb)
      replace KQ := Aside0.mk (KQ.out.below hb)
      replace KR := Aside0.mk (KR.out.below hb)
      clear hb
      rw [hLr0] at ho0
      obtain ⟨As0, cs0, rfl, hcs0, hrs0⟩ := ho0.slice
      have HRs0 := Aside0.mk hrs0
      have HCs0 := Aside0.mk hcs0
      clear ho0 hrs0 hcs0
      rw [hLr1] at ho1
      obtain ⟨As1, cs1, rfl, hcs1, hrs1⟩ := ho1.slice
      have HRs1 := Aside0.mk hrs1
      have HCs1 := Aside0.mk hcs1
      clear ho1 hrs1 hcs1
      have hb : Below w10.heap.size w10 (w10.alloc (.cells #[.slice As0 Lr0.length cs0, .slice As1 Lr1.length cs1] 29)) := below_alloc (Below.refl _ _) _
      replace HB := Aside0.mk (below_step HB.out hb)
      replace HRx0 := Aside0.mk (Kd.C_below HRx0.out hb)
      replace HRx1 := Aside0.mk (Kd.C_below HRx1.out hb)
      replace HRy0 := Aside0.mk (Kd.C_below HRy0.out hb)
      replace HRy1 := Aside0.mk (Kd.C_below HRy1.out hb)
      replace HRp0 := Aside0.mk (Kd.C_below HRp0.out hb)
      replace HRp1 := Aside0.mk (Kd.C_below HRp1.out hb)
      replace HRq0 := Aside0.mk (Kd.C_below HRq0.out hb)
      replace HRq1 := Aside0.mk (Kd.C_below HRq1.out hb)
      replace HRr0 := Aside0.mk (Kd.C_below HRr0.out hb)
      replace HRr1 := Aside0.mk (Kd.C_below HRr1.out hb)
      replace HRs0 := Aside0.mk (Kd.C_below HRs0.out hb)
      replace HRs1 := Aside0.mk (Kd.C_below HRs1.out hb)
      replace KX := Aside0.mk (KX.out.below hb)
      replace KY := Aside0.mk (KY.out.below hb)
      replace KP := Aside0.mk (KP.out.below hb)
      replace KQ := Aside0.mk (KQ.out.below hb)
      replace KR := Aside0.mk (KR.out.below hb)
      clear hb
      have KS : Aside0 (Held (w10.alloc (.cells #[.slice As0 Lr0.length cs0, .slice As1 Lr1.length cs1] 29)) (w10.heap.size) (.slice As0 Lr0.length cs0) (.slice As1 Lr1.length cs1)) := ⟨Held.new _ _ _⟩
      go_wp2_with fail
      generalize (w10.alloc (.cells #[.slice As0 Lr0.length cs0, .slice As1 Lr1.length cs1] 29)) = w11 at *
      refine wp_region_segs (by kernel_rfl) [(false, [0, 1, 2, 3, 4, 5, 6, 7, 8, 9, 10, 11, 12, 13, 14, 15, 16, 17, 18, 19, 21]), (true, [20]), (false, [22, 23, 24, 25, 26, 27, 28])] (by decide) (by kernel_rfl) ?_
      simp only [wpSegs, pickOps, List.getElem?_toArray, List.getElem?_cons_succ, List.getElem?_cons_zero, Bool.false_eq_true, false_implies, true_and, forall_const]
      have hP0 := KP.out.c0
      have hP1 := KP.out.c1
      have hQ0 := KQ.out.c0
      have hQ1 := KQ.out.c1
      go_wp2_with fail
      clear hP0 hP1 hQ0 hQ1
      refine (same_any Ap0 cp0 Lp0 Ap1 cp1 Lp1 Aq0 cq0 Lp0 Aq1 cq1 Lp1 _ (Kd.C_drew HRp0.out) HCp0.out (Kd.C_drew HRp1.out) HCp1.out (Kd.C_drew HRq0.out) HCq0.out (Kd.C_drew HRq1.out) HCq1.out).mono ?_
      rintro e w12 ⟨rfl, hb⟩
      replace hb := below_step (below_drew1 (Below.refl w11.heap.size w11)) hb
      replace HB := Aside0.mk (below_step HB.out hb)
      replace HRx0 := Aside0.mk (Kd.C_below HRx0.out hb)
      replace HRx1 := Aside0.mk (Kd.C_below HRx1.out hb)
      replace HRy0 := Aside0.mk (Kd.C_below HRy0.out hb)
      replace HRy1 := Aside0.mk (Kd.C_below HRy1.out hb)
      replace HRp0 := Aside0.mk (Kd.C_below HRp0.out hb)
      replace HRp1 := Aside0.mk (Kd.C_below HRp1.out hb)
      replace HRq0 := Aside0.mk (Kd.C_below HRq0.out hb)
      replace HRq1 := Aside0.mk (Kd.C_below HRq1.out hb)
      replace HRr0 := Aside0.mk (Kd.C_below HRr0.out hb)
      replace HRr1 := Aside0.mk (Kd.C_below HRr1.out hb)
      replace HRs0 := Aside0.mk (Kd.C_below HRs0.out hb)
      replace HRs1 := Aside0.mk (Kd.C_below HRs1.out hb)
      replace KX := Aside0.mk (KX.out.below hb)
      replace KY := Aside0.mk (KY.out.below hb)
      replace KP := Aside0.mk (KP.out.below hb)
      replace KQ := Aside0.mk (KQ.out.below hb)
      replace KR := Aside0.mk (KR.out.below hb)
      replace KS := Aside0.mk (KS.out.below hb)
      clear hb
      simp only [decide_true, Bool.and_self]
      have hR0 := KR.out.c0
      have hR1 := KR.out.c1
      have hS0 := KS.out.c0
      have hS1 := KS.out.c1
      go_wp2_with fail
      clear hR0 hR1 hS0 hS1
      refine (same_any Ar0 cr0 Lr0 Ar1 cr1 Lr1 As0 cs0 Lr0 As1 cs1 Lr1 _ HRr0.out HCr0.out HRr1.out HCr1.out HRs0.out HCs0.out HRs1.out HCs1.out).mono ?_
      rintro e w13 ⟨rfl, hb⟩
      replace HB := Aside0.mk (below_step HB.out hb)
      replace HRx0 := Aside0.mk (Kd.C_below HRx0.out hb)
      replace HRx1 := Aside0.mk (Kd.C_below HRx1.out hb)
      replace HRy0 := Aside0.mk (Kd.C_below HRy0.out hb)
      replace HRy1 := Aside0.mk (Kd.C_below HRy1.out hb)
      replace HRp0 := Aside0.mk (Kd.C_below HRp0.out hb)
      replace HRp1 := Aside0.mk (Kd.C_below HRp1.out hb)
      replace HRq0 := Aside0.mk (Kd.C_below HRq0.out hb)
      replace HRq1 := Aside0.mk (Kd.C_below HRq1.out hb)
      replace HRr0 := Aside0.mk (Kd.C_below HRr0.out hb)
      replace HRr1 := Aside0.mk (Kd.C_below HRr1.out hb)
      replace HRs0 := Aside0.mk (Kd.C_below HRs0.out hb)
      replace HRs1 := Aside0.mk (Kd.C_below HRs1.out hb)
      replace KX := Aside0.mk (KX.out.below hb)
      replace KY := Aside0.mk (KY.out.below hb)
      replace KP := Aside0.mk (KP.out.below hb)
      replace KQ := Aside0.mk (KQ.out.below hb)
      replace KR := Aside0.mk (KR.out.below hb)
      replace KS := Aside0.mk (KS.out.below hb)
      clear hb
      simp only [decide_true, Bool.and_self]
      have hX0 := KX.out.c0
      have hX1 := KX.out.c1
      go_wp2_with fail
      clear hX0 hX1
      refine (Validate_any Ax0 cx0 lx0 Ax1 cx1 lx1 _ HRx0.out HCx0.out HRx1.out HCx1.out).mono ?_
      rintro e w14 ⟨rfl, hb⟩
      replace HB := Aside0.mk (below_step HB.out hb)
      replace HRx0 := Aside0.mk (Kd.C_below HRx0.out hb)
      replace HRx1 := Aside0.mk (Kd.C_below HRx1.out hb)
      replace HRy0 := Aside0.mk (Kd.C_below HRy0.out hb)
      replace HRy1 := Aside0.mk (Kd.C_below HRy1.out hb)
      replace HRp0 := Aside0.mk (Kd.C_below HRp0.out hb)
      replace HRp1 := Aside0.mk (Kd.C_below HRp1.out hb)
      replace HRq0 := Aside0.mk (Kd.C_below HRq0.out hb)
      replace HRq1 := Aside0.mk (Kd.C_below HRq1.out hb)
      replace HRr0 := Aside0.mk (Kd.C_below HRr0.out hb)
      replace HRr1 := Aside0.mk (Kd.C_below HRr1.out hb)
      replace HRs0 := Aside0.mk (Kd.C_below HRs0.out hb)
      replace HRs1 := Aside0.mk (Kd.C_below HRs1.out hb)
      replace KX := Aside0.mk (KX.out.below hb)
      replace KY := Aside0.mk (KY.out.below hb)
      replace KP := Aside0.mk (KP.out.below hb)
      replace KQ := Aside0.mk (KQ.out.below hb)
      replace KR := Aside0.mk (KR.out.below hb)
      replace KS := Aside0.mk (KS.out.below hb)
      have HX := Aside0.mk (ext_of_below hb)
      clear hb
      go_wp2_with fail
      refine ⟨HX.out, ?_⟩
      clear HX
      have hX0 := KX.out.c0
      have hX1 := KX.out.c1
      go_wp2_with fail
      clear hX0 hX1
      refine (ValidateR_any Ax0 cx0 lx0 Ax1 cx1 lx1 _ HRx0.out HCx0.out HRx1.out HCx1.out ovx.1 ovx.2).mono ?_
      rintro e w15 ⟨rfl, hb⟩
      replace HB := Aside0.mk (below_step HB.out hb)
      replace HRx0 := Aside0.mk (Kd.C_below HRx0.out hb)
      replace HRx1 := Aside0.mk (Kd.C_below HRx1.out hb)
      replace HRy0 := Aside0.mk (Kd.C_below HRy0.out hb)
      replace HRy1 := Aside0.mk (Kd.C_below HRy1.out hb)
      replace HRp0 := Aside0.mk (Kd.C_below HRp0.out hb)
      replace HRp1 := Aside0.mk (Kd.C_below HRp1.out hb)
      replace HRq0 := Aside0.mk (Kd.C_below HRq0.out hb)
      replace HRq1 := Aside0.mk (Kd.C_below HRq1.out hb)
      replace HRr0 := Aside0.mk (Kd.C_below HRr0.out hb)
      replace HRr1 := Aside0.mk (Kd.C_below HRr1.out hb)
      replace HRs0 := Aside0.mk (Kd.C_below HRs0.out hb)
      replace HRs1 := Aside0.mk (Kd.C_below HRs1.out hb)
      replace KX := Aside0.mk (KX.out.below hb)
      replace KY := Aside0.mk (KY.out.below hb)
      replace KP := Aside0.mk (KP.out.below hb)
      replace KQ := Aside0.mk (KQ.out.below hb)
      replace KR := Aside0.mk (KR.out.below hb)
      replace KS := Aside0.mk (KS.out.below hb)
      clear hb
      go_wp2_with fail
      refine (known_any _).mono ?_
      rintro e w16 ⟨rfl, hb⟩
      replace HB := Aside0.mk (below_step HB.out hb)
      replace HRx0 := Aside0.mk (Kd.C_below HRx0.out hb)
      replace HRx1 := Aside0.mk (Kd.C_below HRx1.out hb)
      replace HRy0 := Aside0.mk (Kd.C_below HRy0.out hb)
      replace HRy1 := Aside0.mk (Kd.C_below HRy1.out hb)
      replace HRp0 := Aside0.mk (Kd.C_below HRp0.out hb)
      replace HRp1 := Aside0.mk (Kd.C_below HRp1.out hb)
      replace HRq0 := Aside0.mk (Kd.C_below HRq0.out hb)
      replace HRq1 := Aside0.mk (Kd.C_below HRq1.out hb)
      replace HRr0 := Aside0.mk (Kd.C_below HRr0.out hb)
      replace HRr1 := Aside0.mk (Kd.C_below HRr1.out hb)
      replace HRs0 := Aside0.mk (Kd.C_below HRs0.out hb)
      replace HRs1 := Aside0.mk (Kd.C_below HRs1.out hb)
      replace KX := Aside0.mk (KX.out.below hb)
      replace KY := Aside0.mk (KY.out.below hb)
      replace KP := Aside0.mk (KP.out.below hb)
      replace KQ := Aside0.mk (KQ.out.below hb)
      replace KR := Aside0.mk (KR.out.below hb)
      replace KS := Aside0.mk (KS.out.below hb)
      clear hb
      go_wp2_with fail
      refine ⟨rfl, by kernel_rfl, ?_⟩
      go_wp2_with fail
      go_ret
      exact ⟨rfl, HB.out⟩
    ·
      go_wp2_with fail
      refine (known_any _).mono ?_
      rintro e w4 ⟨rfl, hb⟩
      replace HB := Aside0.mk (below_step HB.out hb)
      replace HRx0 := Aside0.mk (Kd.C_below HRx0.out hb)
      replace HRx1 := Aside0.mk (Kd.C_below HRx1.out hb)
      replace HRy0 := Aside0.mk (Kd.C_below HRy0.out hb)
      replace HRy1 := Aside0.mk (Kd.C_below HRy1.out hb)
      replace KX := Aside0.mk (KX.out.below hb)
      replace KY := Aside0.mk (KY.out.below hb)
      clear hb
      go_wp2_with fail
      go_ret
      exact ⟨rfl, HB.out⟩
  ·
    go_wp2_with fail
    refine (known_any _).mono ?_
    rintro e w3 ⟨rfl, hb⟩
    replace HB := Aside0.mk (below_step HB.out hb)
    replace HRx0 := Aside0.mk (Kd.C_below HRx0.out hb)
    replace HRx1 := Aside0.mk (Kd.C_below HRx1.out hb)
    replace HRy0 := Aside0.mk (Kd.C_below HRy0.out hb)
    replace HRy1 := Aside0.mk (Kd.C_below HRy1.out hb)
    replace KX := Aside0.mk (KX.out.below hb)
    replace KY := Aside0.mk (KY.out.below hb)
    clear hb
    go_wp2_with fail
    go_ret
    exact ⟨rfl, HB.out⟩
end Go.Proofs.Ytpbdlkbiiglkdaa

/- The law BitsNots, walked. -/
import Derived.Test.YtpbdlkbiiglkdaaO
set_option linter.unusedVariables false
set_option linter.unusedSimpArgs false
namespace Go.Proofs.Ytpbdlkbiiglkdaa
open Go.RowKit Go.Proofs.YtpbdlkbiiglkdaaW.PrintWords Go.Proofs.YtpbdlkbiiglkdaaW.PrintLast Go.Proofs.YtpbdlkbiiglkdaaW.PrintMore Go.Proofs.Cab
set_option maxHeartbeats 4000000 in
set_option maxRecDepth 100000 in
theorem BitsNots_any (Ax0 : Option Addr) (cx0 : Nat) (lx0 : List Int) (Ax1 : Option Addr) (cx1 : Nat) (lx1 : List Int) (n : Int) (w : World) (hrx0 : Kd.C (Kd.int .i64) w Ax0 lx0.length lx0) (hcx0 : lx0.length ≤ cx0) (hrx1 : Kd.C (Kd.int .i64) w Ax1 lx1.length lx1) (hcx1 : lx1.length ≤ cx1) (wfn : (Lit.int .i64 n).wf = true) :
    Calls Try.prog 7 #[.agg #[.slice Ax0 lx0.length cx0, .slice Ax1 lx1.length cx1], .int .i64 n] w fun e w' => e = .returned (.bool true) ∧ Below w.heap.size w w' := by
  have HRx0 := Aside0.mk hrx0
  have HCx0 := Aside0.mk hcx0
  have HRx1 := Aside0.mk hrx1
  have HCx1 := Aside0.mk hcx1
  clear hrx0 hcx0 hrx1 hcx1
  have hu22 := Try.underlying22
  have hu29 := Try.underlying29
  have HB := Aside0.mk (Below.refl w.heap.size w)
  go_enter Try.func7, Try.ntmps7
  have hb : Below w.heap.size w (w.alloc (.cells #[.slice Ax0 lx0.length cx0, .slice Ax1 lx1.length cx1] 29)) := below_alloc (Below.refl _ _) _
  replace HB := Aside0.mk (below_step HB.out hb)
  replace HRx0 := Aside0.mk (Kd.C_below HRx0.out hb)
  replace HRx1 := Aside0.mk (Kd.C_below HRx1.out hb)
  clear hb
  have KX : Aside0 (Held (w.alloc (.cells #[.slice Ax0 lx0.length cx0, .slice Ax1 lx1.length cx1] 29)) (w.heap.size) (.slice Ax0 lx0.length cx0) (.slice Ax1 lx1.length cx1)) := ⟨Held.new _ _ _⟩
  have hX0 := KX.out.c0
  have hX1 := KX.out.c1
  go_wp2_with fail
  clear hX0 hX1
  generalize (w.alloc (.cells #[.slice Ax0 lx0.length cx0, .slice Ax1 lx1.length cx1] 29)) = w1 at *
  refine (over_any Ax0 cx0 lx0 Ax1 cx1 lx1 _ HRx0.out HCx0.out HRx1.out HCx1.out).mono ?_
  rintro e w2 ⟨rfl, hb⟩
  replace HB := Aside0.mk (below_step HB.out hb)
  replace HRx0 := Aside0.mk (Kd.C_below HRx0.out hb)
  replace HRx1 := Aside0.mk (Kd.C_below HRx1.out hb)
  replace KX := Aside0.mk (KX.out.below hb)
  clear hb
  cases hovx : overB lx0 lx1
  · have ovx := overB_false hovx
    have hX0 := KX.out.c0
    have hX1 := KX.out.c1
    go_wp2_with fail
    clear hX0 hX1
    refine (Not_any Ax0 cx0 lx0 Ax1 cx1 lx1 n _ HRx0.out HCx0.out HRx1.out HCx1.out).mono ?_
    rintro e w3 ⟨v0, v1, rfl, ho0, ho1, hb⟩
    replace HB := Aside0.mk (below_step HB.out hb)
    replace HRx0 := Aside0.mk (Kd.C_below HRx0.out hb)
    replace HRx1 := Aside0.mk (Kd.C_below HRx1.out hb)
    replace KX := Aside0.mk (KX.out.below hb)
    clear hb
    obtain ⟨Lp0, hLp0⟩ : ∃ L, notL lx0 lx1 n lx1 = L := ⟨_, rfl⟩
    rw [hLp0] at ho0
    obtain ⟨Ap0, cp0, rfl, hcp0, hrp0⟩ := ho0.slice
    have HRp0 := Aside0.mk hrp0
    have HCp0 := Aside0.mk hcp0
    clear ho0 hrp0 hcp0
    obtain ⟨Lp1, hLp1⟩ : ∃ L, notL lx0 lx1 n lx0 = L := ⟨_, rfl⟩
    rw [hLp1] at ho1
    obtain ⟨Ap1, cp1, rfl, hcp1, hrp1⟩ := ho1.slice
    have HRp1 := Aside0.mk hrp1
    have HCp1 := Aside0.mk hcp1
    clear ho1 hrp1 hcp1
    have hb : Below w3.heap.size w3 (w3.alloc (.cells #[.slice Ap0 Lp0.length cp0, .slice Ap1 Lp1.length cp1] 29)) := below_alloc (Below.refl _ _) _
    replace HB := Aside0.mk (below_step HB.out hb)
    replace HRx0 := Aside0.mk (Kd.C_below HRx0.out hb)
    replace HRx1 := Aside0.mk (Kd.C_below HRx1.out hb)
    replace HRp0 := Aside0.mk (Kd.C_below HRp0.out hb)
    replace HRp1 := Aside0.mk (Kd.C_below HRp1.out hb)
    replace KX := Aside0.mk (KX.out.below hb)
    clear hb
    have KP : Aside0 (Held (w3.alloc (.cells #[.slice Ap0 Lp0.length cp0, .slice Ap1 Lp1.length cp1] 29)) (w3.heap.size) (.slice Ap0 Lp0.length cp0) (.slice Ap1 Lp1.length cp1)) := ⟨Held.new _ _ _⟩
    have hX0 := KX.out.c0
    have hX1 := KX.out.c1
    go_wp2_with fail
    clear hX0 hX1
    generalize (w3.alloc (.cells #[.slice Ap0 Lp0.length cp0, .slice Ap1 Lp1.length cp1] 29)) = w4 at *
    refine (NotR_any Ax0 cx0 lx0 Ax1 cx1 lx1 n _ HRx0.out HCx0.out HRx1.out HCx1.out ovx.1 ovx.2).mono ?_
    rintro e w5 ⟨v0, v1, rfl, ho0, ho1, hb⟩
    replace HB := Aside0.mk (below_step HB.out hb)
    replace HRx0 := Aside0.mk (Kd.C_below HRx0.out hb)
    replace HRx1 := Aside0.mk (Kd.C_below HRx1.out hb)
    replace HRp0 := Aside0.mk (Kd.C_below HRp0.out hb)
    replace HRp1 := Aside0.mk (Kd.C_below HRp1.out hb)
    replace KX := Aside0.mk (KX.out.below hb)
    replace KP := Aside0.mk (KP.out.below hb)
    clear hb
    rw [hLp0] at ho0
    obtain ⟨Aq0, cq0, rfl, hcq0, hrq0⟩ := ho0.slice
    have HRq0 := Aside0.mk hrq0
    have HCq0 := Aside0.mk hcq0
    clear ho0 hrq0 hcq0
    rw [hLp1] at ho1
    obtain ⟨Aq1, cq1, rfl, hcq1, hrq1⟩ := ho1.slice
    have HRq1 := Aside0.mk hrq1
    have HCq1 := Aside0.mk hcq1
    clear ho1 hrq1 hcq1
    have hb : Below w5.heap.size w5 (w5.alloc (.cells #[.slice Aq0 Lp0.length cq0, .slice Aq1 Lp1.length cq1] 29)) := below_alloc (Below.refl _ _) _
    replace HB := Aside0.mk (below_step HB.out hb)
    replace HRx0 := Aside0.mk (Kd.C_below HRx0.out hb)
    replace HRx1 := Aside0.mk (Kd.C_below HRx1.out hb)
    replace HRp0 := Aside0.mk (Kd.C_below HRp0.out hb)
    replace HRp1 := Aside0.mk (Kd.C_below HRp1.out hb)
    replace HRq0 := Aside0.mk (Kd.C_below HRq0.out hb)
    replace HRq1 := Aside0.mk (Kd.C_below HRq1.out hb)
    replace KX := Aside0.mk (KX.out.below hb)
    replace KP := Aside0.mk (KP.out.below hb)
    clear hb
    have KQ : Aside0 (Held (w5.alloc (.cells #[.slice Aq0 Lp0.length cq0, .slice Aq1 Lp1.length cq1] 29)) (w5.heap.size) (.slice Aq0 Lp0.length cq0) (.slice Aq1 Lp1.length cq1)) := ⟨Held.new _ _ _⟩
    go_wp2_with fail
    generalize (w5.alloc (.cells #[.slice Aq0 Lp0.length cq0, .slice Aq1 Lp1.length cq1] 29)) = w6 at *
    refine (Any_any n _).mono ?_
    rintro e w7 ⟨v0, v1, rfl, ho0, ho1, hb⟩
    replace HB := Aside0.mk (below_step HB.out hb)
    replace HRx0 := Aside0.mk (Kd.C_below HRx0.out hb)
    replace HRx1 := Aside0.mk (Kd.C_below HRx1.out hb)
    replace HRp0 := Aside0.mk (Kd.C_below HRp0.out hb)
    replace HRp1 := Aside0.mk (Kd.C_below HRp1.out hb)
    replace HRq0 := Aside0.mk (Kd.C_below HRq0.out hb)
    replace HRq1 := Aside0.mk (Kd.C_below HRq1.out hb)
    replace KX := Aside0.mk (KX.out.below hb)
    replace KP := Aside0.mk (KP.out.below hb)
    replace KQ := Aside0.mk (KQ.out.below hb)
    clear hb
    obtain ⟨Lr0, hLr0⟩ : ∃ L, ([] : List Int) = L := ⟨_, rfl⟩
    rw [hLr0] at ho0
    obtain ⟨Ar0, cr0, rfl, hcr0, hrr0⟩ := ho0.slice
    have HRr0 := Aside0.mk hrr0
    have HCr0 := Aside0.mk hcr0
    clear ho0 hrr0 hcr0
    obtain ⟨Lr1, hLr1⟩ : ∃ L, anyL n = L := ⟨_, rfl⟩
    rw [hLr1] at ho1
    obtain ⟨Ar1, cr1, rfl, hcr1, hrr1⟩ := ho1.slice
    have HRr1 := Aside0.mk hrr1
    have HCr1 := Aside0.mk hcr1
    clear ho1 hrr1 hcr1
    have hb : Below w7.heap.size w7 (w7.alloc (.cells #[.slice Ar0 Lr0.length cr0, .slice Ar1 Lr1.length cr1] 29)) := below_alloc (Below.refl _ _) _
    replace HB := Aside0.mk (below_step HB.out hb)
    replace HRx0 := Aside0.mk (Kd.C_below HRx0.out hb)
    replace HRx1 := Aside0.mk (Kd.C_below HRx1.out hb)
    replace HRp0 := Aside0.mk (Kd.C_below HRp0.out hb)
    replace HRp1 := Aside0.mk (Kd.C_below HRp1.out hb)
    replace HRq0 := Aside0.mk (Kd.C_below HRq0.out hb)
    replace HRq1 := Aside0.mk (Kd.C_below HRq1.out hb)
    replace HRr0 := Aside0.mk (Kd.C_below HRr0.out hb)
    replace HRr1 := Aside0.mk (Kd.C_below HRr1.out hb)
    replace KX := Aside0.mk (KX.out.below hb)
    replace KP := Aside0.mk (KP.out.below hb)
    replace KQ := Aside0.mk (KQ.out.below hb)
    clear hb
    have KR : Aside0 (Held (w7.alloc (.cells #[.slice Ar0 Lr0.length cr0, .slice Ar1 Lr1.length cr1] 29)) (w7.heap.size) (.slice Ar0 Lr0.length cr0) (.slice Ar1 Lr1.length cr1)) := ⟨Held.new _ _ _⟩
    go_wp2_with fail
    generalize (w7.alloc (.cells #[.slice Ar0 Lr0.length cr0, .slice Ar1 Lr1.length cr1] 29)) = w8 at *
    refine (AnyR_any n _).mono ?_
    rintro e w9 ⟨v0, v1, rfl, ho0, ho1, hb⟩
    replace HB := Aside0.mk (below_step HB.out hb)
    replace HRx0 := Aside0.mk (Kd.C_below HRx0.out hb)
    replace HRx1 := Aside0.mk (Kd.C_below HRx1.out hb)
    replace HRp0 := Aside0.mk (Kd.C_below HRp0.out hb)
    replace HRp1 := Aside0.mk (Kd.C_below HRp1.out hb)
    replace HRq0 := Aside0.mk (Kd.C_below HRq0.out hb)
    replace HRq1 := Aside0.mk (Kd.C_below HRq1.out hb)
    replace HRr0 := Aside0.mk (Kd.C_below HRr0.out hb)
    replace HRr1 := Aside0.mk (Kd.C_below HRr1.out hb)
    replace KX := Aside0.mk (KX.out.below hb)
    replace KP := Aside0.mk (KP.out.below hb)
    replace KQ := Aside0.mk (KQ.out.below hb)
    replace KR := Aside0.mk (KR.out.below hb)
    clear hb
    rw [hLr0] at ho0
    obtain ⟨As0, cs0, rfl, hcs0, hrs0⟩ := ho0.slice
    have HRs0 := Aside0.mk hrs0
    have HCs0 := Aside0.mk hcs0
    clear ho0 hrs0 hcs0
    rw [hLr1] at ho1
    obtain ⟨As1, cs1, rfl, hcs1, hrs1⟩ := ho1.slice
    have HRs1 := Aside0.mk hrs1
    have HCs1 := Aside0.mk hcs1
    clear ho1 hrs1 hcs1
    have hb : Below w9.heap.size w9 (w9.alloc (.cells #[.slice As0 Lr0.length cs0, .slice As1 Lr1.length cs1] 29)) := below_alloc (Below.refl _ _) _
    replace HB := Aside0.mk (below_step HB.out hb)
    replace HRx0 := Aside0.mk (Kd.C_below HRx0.out hb)
    replace HRx1 := Aside0.mk (Kd.C_below HRx1.out hb)
    replace HRp0 := Aside0.mk (Kd.C_below HRp0.out hb)
    replace HRp1 := Aside0.mk (Kd.C_below HRp1.out hb)
    replace HRq0 := Aside0.mk (Kd.C_below HRq0.out hb)
    replace HRq1 := Aside0.mk (Kd.C_below HRq1.out hb)
    replace HRr0 := Aside0.mk (Kd.C_below HRr0.out hb)
    replace HRr1 := Aside0.mk (Kd.C_below HRr1.out hb)
    replace HRs0 := Aside0.mk (Kd.C_below HRs0.out hb)
    replace HRs1 := Aside0.mk (Kd.C_below HRs1.out hb)
    replace KX := Aside0.mk (KX.out.below hb)
    replace KP := Aside0.mk (KP.out.below hb)
    replace KQ := Aside0.mk (KQ.out.below hb)
    replace KR := Aside0.mk (KR.out.below hb)
    clear hb
    have KS : Aside0 (Held (w9.alloc (.cells #[.slice As0 Lr0.length cs0, .slice As1 Lr1.length cs1] 29)) (w9.heap.size) (.slice As0 Lr0.length cs0) (.slice As1 Lr1.length cs1)) := ⟨Held.new _ _ _⟩
    have hP0 := KP.out.c0
    have hP1 := KP.out.c1
    have hQ0 := KQ.out.c0
    have hQ1 := KQ.out.c1
    go_wp2_with fail
    clear hP0 hP1 hQ0 hQ1
    generalize (w9.alloc (.cells #[.slice As0 Lr0.length cs0, .slice As1 Lr1.length cs1] 29)) = w10 at *
    refine (same_any Ap0 cp0 Lp0 Ap1 cp1 Lp1 Aq0 cq0 Lp0 Aq1 cq1 Lp1 _ HRp0.out HCp0.out HRp1.out HCp1.out HRq0.out HCq0.out HRq1.out HCq1.out).mono ?_
    rintro e w11 ⟨rfl, hb⟩
    replace HB := Aside0.mk (below_step HB.out hb)
    replace HRx0 := Aside0.mk (Kd.C_below HRx0.out hb)
    replace HRx1 := Aside0.mk (Kd.C_below HRx1.out hb)
    replace HRp0 := Aside0.mk (Kd.C_below HRp0.out hb)
    replace HRp1 := Aside0.mk (Kd.C_below HRp1.out hb)
    replace HRq0 := Aside0.mk (Kd.C_below HRq0.out hb)
    replace HRq1 := Aside0.mk (Kd.C_below HRq1.out hb)
    replace HRr0 := Aside0.mk (Kd.C_below HRr0.out hb)
    replace HRr1 := Aside0.mk (Kd.C_below HRr1.out hb)
    replace HRs0 := Aside0.mk (Kd.C_below HRs0.out hb)
    replace HRs1 := Aside0.mk (Kd.C_below HRs1.out hb)
    replace KX := Aside0.mk (KX.out.below hb)
    replace KP := Aside0.mk (KP.out.below hb)
    replace KQ := Aside0.mk (KQ.out.below hb)
    replace KR := Aside0.mk (KR.out.below hb)
    replace KS := Aside0.mk (KS.out.below hb)
    clear hb
    simp only [decide_true, Bool.and_self]
    have hR0 := KR.out.c0
    have hR1 := KR.out.c1
    have hS0 := KS.out.c0
    have hS1 := KS.out.c1
    go_wp2_with fail
    clear hR0 hR1 hS0 hS1
    refine (same_any Ar0 cr0 Lr0 Ar1 cr1 Lr1 As0 cs0 Lr0 As1 cs1 Lr1 _ HRr0.out HCr0.out HRr1.out HCr1.out HRs0.out HCs0.out HRs1.out HCs1.out).mono ?_
    rintro e w12 ⟨rfl, hb⟩
    replace HB := Aside0.mk (below_step HB.out hb)
    replace HRx0 := Aside0.mk (Kd.C_below HRx0.out hb)
    replace HRx1 := Aside0.mk (Kd.C_below HRx1.out hb)
    replace HRp0 := Aside0.mk (Kd.C_below HRp0.out hb)
    replace HRp1 := Aside0.mk (Kd.C_below HRp1.out hb)
    replace HRq0 := Aside0.mk (Kd.C_below HRq0.out hb)
    replace HRq1 := Aside0.mk (Kd.C_below HRq1.out hb)
    replace HRr0 := Aside0.mk (Kd.C_below HRr0.out hb)
    replace HRr1 := Aside0.mk (Kd.C_below HRr1.out hb)
    replace HRs0 := Aside0.mk (Kd.C_below HRs0.out hb)
    replace HRs1 := Aside0.mk (Kd.C_below HRs1.out hb)
    replace KX := Aside0.mk (KX.out.below hb)
    replace KP := Aside0.mk (KP.out.below hb)
    replace KQ := Aside0.mk (KQ.out.below hb)
    replace KR := Aside0.mk (KR.out.below hb)
    replace KS := Aside0.mk (KS.out.below hb)
    clear hb
    simp only [decide_true, Bool.and_self]
    go_wp2_with fail
    refine (known_any _).mono ?_
    rintro e w13 ⟨rfl, hb⟩
    replace HB := Aside0.mk (below_step HB.out hb)
    replace HRx0 := Aside0.mk (Kd.C_below HRx0.out hb)
    replace HRx1 := Aside0.mk (Kd.C_below HRx1.out hb)
    replace HRp0 := Aside0.mk (Kd.C_below HRp0.out hb)
    replace HRp1 := Aside0.mk (Kd.C_below HRp1.out hb)
    replace HRq0 := Aside0.mk (Kd.C_below HRq0.out hb)
    replace HRq1 := Aside0.mk (Kd.C_below HRq1.out hb)
    replace HRr0 := Aside0.mk (Kd.C_below HRr0.out hb)
    replace HRr1 := Aside0.mk (Kd.C_below HRr1.out hb)
    replace HRs0 := Aside0.mk (Kd.C_below HRs0.out hb)
    replace HRs1 := Aside0.mk (Kd.C_below HRs1.out hb)
    replace KX := Aside0.mk (KX.out.below hb)
    replace KP := Aside0.mk (KP.out.below hb)
    replace KQ := Aside0.mk (KQ.out.below hb)
    replace KR := Aside0.mk (KR.out.below hb)
    replace KS := Aside0.mk (KS.out.below hb)
    clear hb
    go_wp2_with fail
    go_ret
    exact ⟨rfl, HB.out⟩
  ·
    go_wp2_with fail
    refine (known_any _).mono ?_
    rintro e w3 ⟨rfl, hb⟩
    replace HB := Aside0.mk (below_step HB.out hb)
    replace HRx0 := Aside0.mk (Kd.C_below HRx0.out hb)
    replace HRx1 := Aside0.mk (Kd.C_below HRx1.out hb)
    replace KX := Aside0.mk (KX.out.below hb)
    clear hb
    go_wp2_with fail
    go_ret
    exact ⟨rfl, HB.out⟩
end Go.Proofs.Ytpbdlkbiiglkdaa

/- The law BitsMorgan, walked. -/
import Derived.Test.YtpbdlkbiiglkdaaMorganLaw
set_option linter.unusedVariables false
set_option linter.unusedSimpArgs false
namespace Go.Proofs.Ytpbdlkbiiglkdaa
open Go.RowKit Go.Proofs.YtpbdlkbiiglkdaaW.PrintWords Go.Proofs.YtpbdlkbiiglkdaaW.PrintLast Go.Proofs.YtpbdlkbiiglkdaaW.PrintMore Go.Proofs.Cab
set_option maxHeartbeats 4000000 in
set_option maxRecDepth 100000 in
theorem BitsMorgan_any (Ax0 : Option Addr) (cx0 : Nat) (lx0 : List Int) (Ax1 : Option Addr) (cx1 : Nat) (lx1 : List Int) (Ay0 : Option Addr) (cy0 : Nat) (ly0 : List Int) (Ay1 : Option Addr) (cy1 : Nat) (ly1 : List Int) (n : Int) (w : World) (hrx0 : Kd.C (Kd.int .i64) w Ax0 lx0.length lx0) (hcx0 : lx0.length ≤ cx0) (hrx1 : Kd.C (Kd.int .i64) w Ax1 lx1.length lx1) (hcx1 : lx1.length ≤ cx1) (hry0 : Kd.C (Kd.int .i64) w Ay0 ly0.length ly0) (hcy0 : ly0.length ≤ cy0) (hry1 : Kd.C (Kd.int .i64) w Ay1 ly1.length ly1) (hcy1 : ly1.length ≤ cy1) (wfn : (Lit.int .i64 n).wf = true) :
    Calls Try.prog 6 #[.agg #[.slice Ax0 lx0.length cx0, .slice Ax1 lx1.length cx1], .agg #[.slice Ay0 ly0.length cy0, .slice Ay1 ly1.length cy1], .int .i64 n] w fun e w' => e = .returned (.bool true) ∧ Below w.heap.size w w' := by
  have HRx0 := Aside0.mk hrx0
  have HCx0 := Aside0.mk hcx0
  have HRx1 := Aside0.mk hrx1
  have HCx1 := Aside0.mk hcx1
  have HRy0 := Aside0.mk hry0
  have HCy0 := Aside0.mk hcy0
  have HRy1 := Aside0.mk hry1
  have HCy1 := Aside0.mk hcy1
  clear hrx0 hcx0 hrx1 hcx1 hry0 hcy0 hry1 hcy1
  have hu22 := Try.underlying22
  have hu29 := Try.underlying29
  have HB := Aside0.mk (Below.refl w.heap.size w)
  go_enter Try.func6, Try.ntmps6
  obtain ⟨w1, hW1⟩ : ∃ x, w.alloc (.cells #[.slice Ax0 lx0.length cx0, .slice Ax1 lx1.length cx1] 29) = x := ⟨_, rfl⟩
  have hb : Below w.heap.size w w1 := by rw [← hW1]; exact below_alloc (Below.refl _ _) _
  replace HB := Aside0.mk (below_step HB.out hb)
  replace HRx0 := Aside0.mk (Kd.C_below HRx0.out hb)
  replace HRx1 := Aside0.mk (Kd.C_below HRx1.out hb)
  replace HRy0 := Aside0.mk (Kd.C_below HRy0.out hb)
  replace HRy1 := Aside0.mk (Kd.C_below HRy1.out hb)
  clear hb
  have KX : Aside0 (Held w1 (w.heap.size) (.slice Ax0 lx0.length cx0) (.slice Ax1 lx1.length cx1)) := ⟨by rw [← hW1]; exact Held.new _ _ _⟩
  obtain ⟨w2, hW2⟩ : ∃ x, w1.alloc (.cells #[.slice Ay0 ly0.length cy0, .slice Ay1 ly1.length cy1] 29) = x := ⟨_, rfl⟩
  have hb : Below w1.heap.size w1 w2 := by rw [← hW2]; exact below_alloc (Below.refl _ _) _
  replace HB := Aside0.mk (below_step HB.out hb)
  replace HRx0 := Aside0.mk (Kd.C_below HRx0.out hb)
  replace HRx1 := Aside0.mk (Kd.C_below HRx1.out hb)
  replace HRy0 := Aside0.mk (Kd.C_below HRy0.out hb)
  replace HRy1 := Aside0.mk (Kd.C_below HRy1.out hb)
  replace KX := Aside0.mk (KX.out.below hb)
  clear hb
  have KY : Aside0 (Held w2 (w.heap.size + 1) (.slice Ay0 ly0.length cy0) (.slice Ay1 ly1.length cy1)) := ⟨by rw [← hW2]; exact (Held.new _ _ _).at_ (by rw [← hW1]; exact alloc_size _ _)⟩
  have hX0 := KX.out.c0
  rw [← hW2, ← hW1] at hX0
  have hX1 := KX.out.c1
  rw [← hW2, ← hW1] at hX1
  have hY0 := KY.out.c0
  rw [← hW2, ← hW1] at hY0
  have hY1 := KY.out.c1
  rw [← hW2, ← hW1] at hY1
  have AhW1 := Aside0.mk hW1
  clear hW1
  have AhW2 := Aside0.mk hW2
  clear hW2
  go_wp2_with fail
  clear hX0 hX1 hY0 hY1
  rw [AhW1.out]
  rw [AhW2.out]
  clear AhW1 AhW2
  refine (over_any Ax0 cx0 lx0 Ax1 cx1 lx1 _ HRx0.out HCx0.out HRx1.out HCx1.out).mono ?_
  rintro e w3 ⟨rfl, hb⟩
  replace HB := Aside0.mk (below_step HB.out hb)
  replace HRx0 := Aside0.mk (Kd.C_below HRx0.out hb)
  replace HRx1 := Aside0.mk (Kd.C_below HRx1.out hb)
  replace HRy0 := Aside0.mk (Kd.C_below HRy0.out hb)
  replace HRy1 := Aside0.mk (Kd.C_below HRy1.out hb)
  replace KX := Aside0.mk (KX.out.below hb)
  replace KY := Aside0.mk (KY.out.below hb)
  clear hb
  cases hovx : overB lx0 lx1
  · have ovx := overB_false hovx
    have hY0 := KY.out.c0
    have hY1 := KY.out.c1
    go_wp2_with fail
    clear hY0 hY1
    refine (over_any Ay0 cy0 ly0 Ay1 cy1 ly1 _ HRy0.out HCy0.out HRy1.out HCy1.out).mono ?_
    rintro e w4 ⟨rfl, hb⟩
    replace HB := Aside0.mk (below_step HB.out hb)
    replace HRx0 := Aside0.mk (Kd.C_below HRx0.out hb)
    replace HRx1 := Aside0.mk (Kd.C_below HRx1.out hb)
    replace HRy0 := Aside0.mk (Kd.C_below HRy0.out hb)
    replace HRy1 := Aside0.mk (Kd.C_below HRy1.out hb)
    replace KX := Aside0.mk (KX.out.below hb)
    replace KY := Aside0.mk (KY.out.below hb)
    clear hb
    cases hovy : overB ly0 ly1
    · have ovy := overB_false hovy
      have hX0 := KX.out.c0
      have hX1 := KX.out.c1
      have hY0 := KY.out.c0
      have hY1 := KY.out.c1
      go_wp2_with fail
      clear hX0 hX1 hY0 hY1
      refine (Not_any Ax0 cx0 lx0 Ax1 cx1 lx1 n _ HRx0.out HCx0.out HRx1.out HCx1.out).mono ?_
      rintro e w5 ⟨v0, v1, rfl, ho0, ho1, hb⟩
      replace HB := Aside0.mk (below_step HB.out hb)
      replace HRx0 := Aside0.mk (Kd.C_below HRx0.out hb)
      replace HRx1 := Aside0.mk (Kd.C_below HRx1.out hb)
      replace HRy0 := Aside0.mk (Kd.C_below HRy0.out hb)
      replace HRy1 := Aside0.mk (Kd.C_below HRy1.out hb)
      replace KX := Aside0.mk (KX.out.below hb)
      replace KY := Aside0.mk (KY.out.below hb)
      clear hb
      obtain ⟨La0, hLa0⟩ : ∃ L, notL lx0 lx1 n lx1 = L := ⟨_, rfl⟩
      rw [hLa0] at ho0
      obtain ⟨Aa0, ca0, rfl, hca0, hra0⟩ := ho0.slice
      have HRa0 := Aside0.mk hra0
      have HCa0 := Aside0.mk hca0
      clear ho0 hra0 hca0
      obtain ⟨La1, hLa1⟩ : ∃ L, notL lx0 lx1 n lx0 = L := ⟨_, rfl⟩
      rw [hLa1] at ho1
      obtain ⟨Aa1, ca1, rfl, hca1, hra1⟩ := ho1.slice
      have HRa1 := Aside0.mk hra1
      have HCa1 := Aside0.mk hca1
      clear ho1 hra1 hca1
      obtain ⟨w6, hW6⟩ : ∃ x, w5.alloc (.cells #[.slice Aa0 La0.length ca0, .slice Aa1 La1.length ca1] 29) = x := ⟨_, rfl⟩
      have hb : Below w5.heap.size w5 w6 := by rw [← hW6]; exact below_alloc (Below.refl _ _) _
      replace HB := Aside0.mk (below_step HB.out hb)
      replace HRx0 := Aside0.mk (Kd.C_below HRx0.out hb)
      replace HRx1 := Aside0.mk (Kd.C_below HRx1.out hb)
      replace HRy0 := Aside0.mk (Kd.C_below HRy0.out hb)
      replace HRy1 := Aside0.mk (Kd.C_below HRy1.out hb)
      replace HRa0 := Aside0.mk (Kd.C_below HRa0.out hb)
      replace HRa1 := Aside0.mk (Kd.C_below HRa1.out hb)
      replace KX := Aside0.mk (KX.out.below hb)
      replace KY := Aside0.mk (KY.out.below hb)
      clear hb
      have KA : Aside0 (Held w6 (w5.heap.size) (.slice Aa0 La0.length ca0) (.slice Aa1 La1.length ca1)) := ⟨by rw [← hW6]; exact Held.new _ _ _⟩
      have hY0 := KY.out.c0
      rw [← hW6] at hY0
      have hY1 := KY.out.c1
      rw [← hW6] at hY1
      have AhW6 := Aside0.mk hW6
      clear hW6
      go_wp2_with fail
      clear hY0 hY1
      rw [AhW6.out]
      clear AhW6
      refine (Not_any Ay0 cy0 ly0 Ay1 cy1 ly1 n _ HRy0.out HCy0.out HRy1.out HCy1.out).mono ?_
      rintro e w7 ⟨v0, v1, rfl, ho0, ho1, hb⟩
      replace HB := Aside0.mk (below_step HB.out hb)
      replace HRx0 := Aside0.mk (Kd.C_below HRx0.out hb)
      replace HRx1 := Aside0.mk (Kd.C_below HRx1.out hb)
      replace HRy0 := Aside0.mk (Kd.C_below HRy0.out hb)
      replace HRy1 := Aside0.mk (Kd.C_below HRy1.out hb)
      replace HRa0 := Aside0.mk (Kd.C_below HRa0.out hb)
      replace HRa1 := Aside0.mk (Kd.C_below HRa1.out hb)
      replace KX := Aside0.mk (KX.out.below hb)
      replace KY := Aside0.mk (KY.out.below hb)
      replace KA := Aside0.mk (KA.out.below hb)
      clear hb
      obtain ⟨Lb0, hLb0⟩ : ∃ L, notL ly0 ly1 n ly1 = L := ⟨_, rfl⟩
      rw [hLb0] at ho0
      obtain ⟨Ab0, cb0, rfl, hcb0, hrb0⟩ := ho0.slice
      have HRb0 := Aside0.mk hrb0
      have HCb0 := Aside0.mk hcb0
      clear ho0 hrb0 hcb0
      obtain ⟨Lb1, hLb1⟩ : ∃ L, notL ly0 ly1 n ly0 = L := ⟨_, rfl⟩
      rw [hLb1] at ho1
      obtain ⟨Ab1, cb1, rfl, hcb1, hrb1⟩ := ho1.slice
      have HRb1 := Aside0.mk hrb1
      have HCb1 := Aside0.mk hcb1
      clear ho1 hrb1 hcb1
      by_cases hE : notE lx0 lx1 n = 0
      · by_cases hF : notE ly0 ly1 n = 0
        · rw [hE, hF]
          obtain ⟨w8, hW8⟩ : ∃ x, w7.alloc (.cells #[.slice Ab0 Lb0.length cb0, .slice Ab1 Lb1.length cb1] 29) = x := ⟨_, rfl⟩
          have hb : Below w7.heap.size w7 w8 := by rw [← hW8]; exact below_alloc (Below.refl _ _) _
          replace HB := Aside0.mk (below_step HB.out hb)
          replace HRx0 := Aside0.mk (Kd.C_below HRx0.out hb)
          replace HRx1 := Aside0.mk (Kd.C_below HRx1.out hb)
          replace HRy0 := Aside0.mk (Kd.C_below HRy0.out hb)
          replace HRy1 := Aside0.mk (Kd.C_below HRy1.out hb)
          replace HRa0 := Aside0.mk (Kd.C_below HRa0.out hb)
          replace HRa1 := Aside0.mk (Kd.C_below HRa1.out hb)
          replace HRb0 := Aside0.mk (Kd.C_below HRb0.out hb)
          replace HRb1 := Aside0.mk (Kd.C_below HRb1.out hb)
          replace KX := Aside0.mk (KX.out.below hb)
          replace KY := Aside0.mk (KY.out.below hb)
          replace KA := Aside0.mk (KA.out.below hb)
          clear hb
          have KB : Aside0 (Held w8 (w7.heap.size) (.slice Ab0 Lb0.length cb0) (.slice Ab1 Lb1.length cb1)) := ⟨by rw [← hW8]; exact Held.new _ _ _⟩
          have hX0 := KX.out.c0
          rw [← hW8] at hX0
          have hX1 := KX.out.c1
          rw [← hW8] at hX1
          have hY0 := KY.out.c0
          rw [← hW8] at hY0
          have hY1 := KY.out.c1
          rw [← hW8] at hY1
          have AhW8 := Aside0.mk hW8
          clear hW8
          go_wp2_with fail
          clear hX0 hX1 hY0 hY1
          rw [AhW8.out]
          clear AhW8
          refine (And_any Ax0 cx0 lx0 Ax1 cx1 lx1 Ay0 cy0 ly0 Ay1 cy1 ly1 _ HRx0.out HCx0.out HRx1.out HCx1.out HRy0.out HCy0.out HRy1.out HCy1.out).mono ?_
          rintro e w9 ⟨v0, v1, rfl, ho0, ho1, hb⟩
          replace HB := Aside0.mk (below_step HB.out hb)
          replace HRx0 := Aside0.mk (Kd.C_below HRx0.out hb)
          replace HRx1 := Aside0.mk (Kd.C_below HRx1.out hb)
          replace HRy0 := Aside0.mk (Kd.C_below HRy0.out hb)
          replace HRy1 := Aside0.mk (Kd.C_below HRy1.out hb)
          replace HRa0 := Aside0.mk (Kd.C_below HRa0.out hb)
          replace HRa1 := Aside0.mk (Kd.C_below HRa1.out hb)
          replace HRb0 := Aside0.mk (Kd.C_below HRb0.out hb)
          replace HRb1 := Aside0.mk (Kd.C_below HRb1.out hb)
          replace KX := Aside0.mk (KX.out.below hb)
          replace KY := Aside0.mk (KY.out.below hb)
          replace KA := Aside0.mk (KA.out.below hb)
          replace KB := Aside0.mk (KB.out.below hb)
          clear hb
          obtain ⟨Lp0, hLp0⟩ : ∃ L, bothL (fun a b => a && b) lx0 lx1 ly0 ly1 lx0 ly0 = L := ⟨_, rfl⟩
          rw [hLp0] at ho0
          obtain ⟨Ap0, cp0, rfl, hcp0, hrp0⟩ := ho0.slice
          have HRp0 := Aside0.mk hrp0
          have HCp0 := Aside0.mk hcp0
          clear ho0 hrp0 hcp0
          obtain ⟨Lp1, hLp1⟩ : ∃ L, bothL (fun a b => a && b) lx0 lx1 ly0 ly1 lx1 ly1 = L := ⟨_, rfl⟩
          rw [hLp1] at ho1
          obtain ⟨Ap1, cp1, rfl, hcp1, hrp1⟩ := ho1.slice
          have HRp1 := Aside0.mk hrp1
          have HCp1 := Aside0.mk hcp1
          clear ho1 hrp1 hcp1
          obtain ⟨w10, hW10⟩ : ∃ x, w9.alloc (.cells #[.slice Ap0 Lp0.length cp0, .slice Ap1 Lp1.length cp1] 29) = x := ⟨_, rfl⟩
          have hb : Below w9.heap.size w9 w10 := by rw [← hW10]; exact below_alloc (Below.refl _ _) _
          replace HB := Aside0.mk (below_step HB.out hb)
          replace HRx0 := Aside0.mk (Kd.C_below HRx0.out hb)
          replace HRx1 := Aside0.mk (Kd.C_below HRx1.out hb)
          replace HRy0 := Aside0.mk (Kd.C_below HRy0.out hb)
          replace HRy1 := Aside0.mk (Kd.C_below HRy1.out hb)
          replace HRa0 := Aside0.mk (Kd.C_below HRa0.out hb)
          replace HRa1 := Aside0.mk (Kd.C_below HRa1.out hb)
          replace HRb0 := Aside0.mk (Kd.C_below HRb0.out hb)
          replace HRb1 := Aside0.mk (Kd.C_below HRb1.out hb)
          replace HRp0 := Aside0.mk (Kd.C_below HRp0.out hb)
          replace HRp1 := Aside0.mk (Kd.C_below HRp1.out hb)
          replace KX := Aside0.mk (KX.out.below hb)
          replace KY := Aside0.mk (KY.out.below hb)
          replace KA := Aside0.mk (KA.out.below hb)
          replace KB := Aside0.mk (KB.out.below hb)
          clear hb
          have KP : Aside0 (Held w10 (w9.heap.size) (.slice Ap0 Lp0.length cp0) (.slice Ap1 Lp1.length cp1)) := ⟨by rw [← hW10]; exact Held.new _ _ _⟩
          have hP0 := KP.out.c0
          rw [← hW10] at hP0
          have hP1 := KP.out.c1
          rw [← hW10] at hP1
          have AhW10 := Aside0.mk hW10
          clear hW10
          go_wp2_with fail
          clear hP0 hP1
          rw [AhW10.out]
          clear AhW10
          refine (Not_any Ap0 cp0 Lp0 Ap1 cp1 Lp1 n _ HRp0.out HCp0.out HRp1.out HCp1.out).mono ?_
          rintro e w11 ⟨v0, v1, rfl, ho0, ho1, hb⟩
          replace HB := Aside0.mk (below_step HB.out hb)
          replace HRx0 := Aside0.mk (Kd.C_below HRx0.out hb)
          replace HRx1 := Aside0.mk (Kd.C_below HRx1.out hb)
          replace HRy0 := Aside0.mk (Kd.C_below HRy0.out hb)
          replace HRy1 := Aside0.mk (Kd.C_below HRy1.out hb)
          replace HRa0 := Aside0.mk (Kd.C_below HRa0.out hb)
          replace HRa1 := Aside0.mk (Kd.C_below HRa1.out hb)
          replace HRb0 := Aside0.mk (Kd.C_below HRb0.out hb)
          replace HRb1 := Aside0.mk (Kd.C_below HRb1.out hb)
          replace HRp0 := Aside0.mk (Kd.C_below HRp0.out hb)
          replace HRp1 := Aside0.mk (Kd.C_below HRp1.out hb)
          replace KX := Aside0.mk (KX.out.below hb)
          replace KY := Aside0.mk (KY.out.below hb)
          replace KA := Aside0.mk (KA.out.below hb)
          replace KB := Aside0.mk (KB.out.below hb)
          replace KP := Aside0.mk (KP.out.below hb)
          clear hb
          obtain ⟨Lc0, hLc0⟩ : ∃ L, notL Lp0 Lp1 n Lp1 = L := ⟨_, rfl⟩
          rw [hLc0] at ho0
          obtain ⟨Ac0, cc0, rfl, hcc0, hrc0⟩ := ho0.slice
          have HRc0 := Aside0.mk hrc0
          have HCc0 := Aside0.mk hcc0
          clear ho0 hrc0 hcc0
          obtain ⟨Lc1, hLc1⟩ : ∃ L, notL Lp0 Lp1 n Lp0 = L := ⟨_, rfl⟩
          rw [hLc1] at ho1
          obtain ⟨Ac1, cc1, rfl, hcc1, hrc1⟩ := ho1.slice
          have HRc1 := Aside0.mk hrc1
          have HCc1 := Aside0.mk hcc1
          clear ho1 hrc1 hcc1
          obtain ⟨w12, hW12⟩ : ∃ x, w11.alloc (.cells #[.slice Ac0 Lc0.length cc0, .slice Ac1 Lc1.length cc1] 29) = x := ⟨_, rfl⟩
          have hb : Below w11.heap.size w11 w12 := by rw [← hW12]; exact below_alloc (Below.refl _ _) _
          replace HB := Aside0.mk (below_step HB.out hb)
          replace HRx0 := Aside0.mk (Kd.C_below HRx0.out hb)
          replace HRx1 := Aside0.mk (Kd.C_below HRx1.out hb)
          replace HRy0 := Aside0.mk (Kd.C_below HRy0.out hb)
          replace HRy1 := Aside0.mk (Kd.C_below HRy1.out hb)
          replace HRa0 := Aside0.mk (Kd.C_below HRa0.out hb)
          replace HRa1 := Aside0.mk (Kd.C_below HRa1.out hb)
          replace HRb0 := Aside0.mk (Kd.C_below HRb0.out hb)
          replace HRb1 := Aside0.mk (Kd.C_below HRb1.out hb)
          replace HRp0 := Aside0.mk (Kd.C_below HRp0.out hb)
          replace HRp1 := Aside0.mk (Kd.C_below HRp1.out hb)
          replace HRc0 := Aside0.mk (Kd.C_below HRc0.out hb)
          replace HRc1 := Aside0.mk (Kd.C_below HRc1.out hb)
          replace KX := Aside0.mk (KX.out.below hb)
          replace KY := Aside0.mk (KY.out.below hb)
          replace KA := Aside0.mk (KA.out.below hb)
          replace KB := Aside0.mk (KB.out.below hb)
          replace KP := Aside0.mk (KP.out.below hb)
          clear hb
          have KC : Aside0 (Held w12 (w11.heap.size) (.slice Ac0 Lc0.length cc0) (.slice Ac1 Lc1.length cc1)) := ⟨by rw [← hW12]; exact Held.new _ _ _⟩
          have hA0 := KA.out.c0
          rw [← hW12] at hA0
          have hA1 := KA.out.c1
          rw [← hW12] at hA1
          have hB0 := KB.out.c0
          rw [← hW12] at hB0
          have hB1 := KB.out.c1
          rw [← hW12] at hB1
          have AhW12 := Aside0.mk hW12
          clear hW12
          go_wp2_with fail
          clear hA0 hA1 hB0 hB1
          rw [AhW12.out]
          clear AhW12
          refine (Or_any Aa0 ca0 La0 Aa1 ca1 La1 Ab0 cb0 Lb0 Ab1 cb1 Lb1 _ HRa0.out HCa0.out HRa1.out HCa1.out HRb0.out HCb0.out HRb1.out HCb1.out).mono ?_
          rintro e w13 ⟨v0, v1, rfl, ho0, ho1, hb⟩
          replace HB := Aside0.mk (below_step HB.out hb)
          replace HRx0 := Aside0.mk (Kd.C_below HRx0.out hb)
          replace HRx1 := Aside0.mk (Kd.C_below HRx1.out hb)
          replace HRy0 := Aside0.mk (Kd.C_below HRy0.out hb)
          replace HRy1 := Aside0.mk (Kd.C_below HRy1.out hb)
          replace HRa0 := Aside0.mk (Kd.C_below HRa0.out hb)
          replace HRa1 := Aside0.mk (Kd.C_below HRa1.out hb)
          replace HRb0 := Aside0.mk (Kd.C_below HRb0.out hb)
          replace HRb1 := Aside0.mk (Kd.C_below HRb1.out hb)
          replace HRp0 := Aside0.mk (Kd.C_below HRp0.out hb)
          replace HRp1 := Aside0.mk (Kd.C_below HRp1.out hb)
          replace HRc0 := Aside0.mk (Kd.C_below HRc0.out hb)
          replace HRc1 := Aside0.mk (Kd.C_below HRc1.out hb)
          replace KX := Aside0.mk (KX.out.below hb)
          replace KY := Aside0.mk (KY.out.below hb)
          replace KA := Aside0.mk (KA.out.below hb)
          replace KB := Aside0.mk (KB.out.below hb)
          replace KP := Aside0.mk (KP.out.below hb)
          replace KC := Aside0.mk (KC.out.below hb)
          clear hb
          obtain ⟨Ld0, hLd0⟩ : ∃ L, bothL (fun a b => a || b) La0 La1 Lb0 Lb1 La0 Lb0 = L := ⟨_, rfl⟩
          rw [hLd0] at ho0
          obtain ⟨Ad0, cd0, rfl, hcd0, hrd0⟩ := ho0.slice
          have HRd0 := Aside0.mk hrd0
          have HCd0 := Aside0.mk hcd0
          clear ho0 hrd0 hcd0
          obtain ⟨Ld1, hLd1⟩ : ∃ L, bothL (fun a b => a || b) La0 La1 Lb0 Lb1 La1 Lb1 = L := ⟨_, rfl⟩
          rw [hLd1] at ho1
          obtain ⟨Ad1, cd1, rfl, hcd1, hrd1⟩ := ho1.slice
          have HRd1 := Aside0.mk hrd1
          have HCd1 := Aside0.mk hcd1
          clear ho1 hrd1 hcd1
          obtain ⟨w14, hW14⟩ : ∃ x, w13.alloc (.cells #[.slice Ad0 Ld0.length cd0, .slice Ad1 Ld1.length cd1] 29) = x := ⟨_, rfl⟩
          have hb : Below w13.heap.size w13 w14 := by rw [← hW14]; exact below_alloc (Below.refl _ _) _
          replace HB := Aside0.mk (below_step HB.out hb)
          replace HRx0 := Aside0.mk (Kd.C_below HRx0.out hb)
          replace HRx1 := Aside0.mk (Kd.C_below HRx1.out hb)
          replace HRy0 := Aside0.mk (Kd.C_below HRy0.out hb)
          replace HRy1 := Aside0.mk (Kd.C_below HRy1.out hb)
          replace HRa0 := Aside0.mk (Kd.C_below HRa0.out hb)
          replace HRa1 := Aside0.mk (Kd.C_below HRa1.out hb)
          replace HRb0 := Aside0.mk (Kd.C_below HRb0.out hb)
          replace HRb1 := Aside0.mk (Kd.C_below HRb1.out hb)
          replace HRp0 := Aside0.mk (Kd.C_below HRp0.out hb)
          replace HRp1 := Aside0.mk (Kd.C_below HRp1.out hb)
          replace HRc0 := Aside0.mk (Kd.C_below HRc0.out hb)
          replace HRc1 := Aside0.mk (Kd.C_below HRc1.out hb)
          replace HRd0 := Aside0.mk (Kd.C_below HRd0.out hb)
          replace HRd1 := Aside0.mk (Kd.C_below HRd1.out hb)
          replace KX := Aside0.mk (KX.out.below hb)
          replace KY := Aside0.mk (KY.out.below hb)
          replace KA := Aside0.mk (KA.out.below hb)
          replace KB := Aside0.mk (KB.out.below hb)
          replace KP := Aside0.mk (KP.out.below hb)
          replace KC := Aside0.mk (KC.out.below hb)
          clear hb
          have KD : Aside0 (Held w14 (w13.heap.size) (.slice Ad0 Ld0.length cd0) (.slice Ad1 Ld1.length cd1)) := ⟨by rw [← hW14]; exact Held.new _ _ _⟩
          have hA0 := KA.out.c0
          rw [← hW14] at hA0
          have hA1 := KA.out.c1
          rw [← hW14] at hA1
          have AhW14 := Aside0.mk hW14
          clear hW14
          go_wp2_with fail
          clear hA0 hA1
          rw [AhW14.out]
          clear AhW14
          refine (Not_any Aa0 ca0 La0 Aa1 ca1 La1 n _ HRa0.out HCa0.out HRa1.out HCa1.out).mono ?_
          rintro e w15 ⟨v0, v1, rfl, ho0, ho1, hb⟩
          replace HB := Aside0.mk (below_step HB.out hb)
          replace HRx0 := Aside0.mk (Kd.C_below HRx0.out hb)
          replace HRx1 := Aside0.mk (Kd.C_below HRx1.out hb)
          replace HRy0 := Aside0.mk (Kd.C_below HRy0.out hb)
          replace HRy1 := Aside0.mk (Kd.C_below HRy1.out hb)
          replace HRa0 := Aside0.mk (Kd.C_below HRa0.out hb)
          replace HRa1 := Aside0.mk (Kd.C_below HRa1.out hb)
          replace HRb0 := Aside0.mk (Kd.C_below HRb0.out hb)
          replace HRb1 := Aside0.mk (Kd.C_below HRb1.out hb)
          replace HRp0 := Aside0.mk (Kd.C_below HRp0.out hb)
          replace HRp1 := Aside0.mk (Kd.C_below HRp1.out hb)
          replace HRc0 := Aside0.mk (Kd.C_below HRc0.out hb)
          replace HRc1 := Aside0.mk (Kd.C_below HRc1.out hb)
          replace HRd0 := Aside0.mk (Kd.C_below HRd0.out hb)
          replace HRd1 := Aside0.mk (Kd.C_below HRd1.out hb)
          replace KX := Aside0.mk (KX.out.below hb)
          replace KY := Aside0.mk (KY.out.below hb)
          replace KA := Aside0.mk (KA.out.below hb)
          replace KB := Aside0.mk (KB.out.below hb)
          replace KP := Aside0.mk (KP.out.below hb)
          replace KC := Aside0.mk (KC.out.below hb)
          replace KD := Aside0.mk (KD.out.below hb)
          clear hb
          obtain ⟨Le0, hLe0⟩ : ∃ L, notL La0 La1 n La1 = L := ⟨_, rfl⟩
          rw [hLe0] at ho0
          obtain ⟨Ae0, ce0, rfl, hce0, hre0⟩ := ho0.slice
          have HRe0 := Aside0.mk hre0
          have HCe0 := Aside0.mk hce0
          clear ho0 hre0 hce0
          obtain ⟨Le1, hLe1⟩ : ∃ L, notL La0 La1 n La0 = L := ⟨_, rfl⟩
          rw [hLe1] at ho1
          obtain ⟨Ae1, ce1, rfl, hce1, hre1⟩ := ho1.slice
          have HRe1 := Aside0.mk hre1
          have HCe1 := Aside0.mk hce1
          clear ho1 hre1 hce1
          obtain ⟨w16, hW16⟩ : ∃ x, w15.alloc (.cells #[.slice Ae0 Le0.length ce0, .slice Ae1 Le1.length ce1] 29) = x := ⟨_, rfl⟩
          have hb : Below w15.heap.size w15 w16 := by rw [← hW16]; exact below_alloc (Below.refl _ _) _
          replace HB := Aside0.mk (below_step HB.out hb)
          replace HRx0 := Aside0.mk (Kd.C_below HRx0.out hb)
          replace HRx1 := Aside0.mk (Kd.C_below HRx1.out hb)
          replace HRy0 := Aside0.mk (Kd.C_below HRy0.out hb)
          replace HRy1 := Aside0.mk (Kd.C_below HRy1.out hb)
          replace HRa0 := Aside0.mk (Kd.C_below HRa0.out hb)
          replace HRa1 := Aside0.mk (Kd.C_below HRa1.out hb)
          replace HRb0 := Aside0.mk (Kd.C_below HRb0.out hb)
          replace HRb1 := Aside0.mk (Kd.C_below HRb1.out hb)
          replace HRp0 := Aside0.mk (Kd.C_below HRp0.out hb)
          replace HRp1 := Aside0.mk (Kd.C_below HRp1.out hb)
          replace HRc0 := Aside0.mk (Kd.C_below HRc0.out hb)
          replace HRc1 := Aside0.mk (Kd.C_below HRc1.out hb)
          replace HRd0 := Aside0.mk (Kd.C_below HRd0.out hb)
          replace HRd1 := Aside0.mk (Kd.C_below HRd1.out hb)
          replace HRe0 := Aside0.mk (Kd.C_below HRe0.out hb)
          replace HRe1 := Aside0.mk (Kd.C_below HRe1.out hb)
          replace KX := Aside0.mk (KX.out.below hb)
          replace KY := Aside0.mk (KY.out.below hb)
          replace KA := Aside0.mk (KA.out.below hb)
          replace KB := Aside0.mk (KB.out.below hb)
          replace KP := Aside0.mk (KP.out.below hb)
          replace KC := Aside0.mk (KC.out.below hb)
          replace KD := Aside0.mk (KD.out.below hb)
          clear hb
          have KE : Aside0 (Held w16 (w15.heap.size) (.slice Ae0 Le0.length ce0) (.slice Ae1 Le1.length ce1)) := ⟨by rw [← hW16]; exact Held.new _ _ _⟩
          have hC0 := KC.out.c0
          rw [← hW16] at hC0
          have hC1 := KC.out.c1
          rw [← hW16] at hC1
          have hD0 := KD.out.c0
          rw [← hW16] at hD0
          have hD1 := KD.out.c1
          rw [← hW16] at hD1
          have AhW16 := Aside0.mk hW16
          clear hW16
          go_wp2_with fail
          clear hC0 hC1 hD0 hD1
          rw [AhW16.out]
          clear AhW16
          obtain ⟨m1, m2, m3, m4⟩ := morgan_law hE hF hLa0 hLa1 hLb0 hLb1 hLp0 hLp1 hLc0 hLc1 hLd0 hLd1 hLe0 hLe1
          have M1 := Aside0.mk m1
          have M2 := Aside0.mk m2
          have M3 := Aside0.mk m3
          have M4 := Aside0.mk m4
          clear m1 m2 m3 m4
          refine (same_any Ac0 cc0 Lc0 Ac1 cc1 Lc1 Ad0 cd0 Ld0 Ad1 cd1 Ld1 _ HRc0.out HCc0.out HRc1.out HCc1.out HRd0.out HCd0.out HRd1.out HCd1.out).mono ?_
          rintro e w17 ⟨rfl, hb⟩
          replace HB := Aside0.mk (below_step HB.out hb)
          replace HRx0 := Aside0.mk (Kd.C_below HRx0.out hb)
          replace HRx1 := Aside0.mk (Kd.C_below HRx1.out hb)
          replace HRy0 := Aside0.mk (Kd.C_below HRy0.out hb)
          replace HRy1 := Aside0.mk (Kd.C_below HRy1.out hb)
          replace HRa0 := Aside0.mk (Kd.C_below HRa0.out hb)
          replace HRa1 := Aside0.mk (Kd.C_below HRa1.out hb)
          replace HRb0 := Aside0.mk (Kd.C_below HRb0.out hb)
          replace HRb1 := Aside0.mk (Kd.C_below HRb1.out hb)
          replace HRp0 := Aside0.mk (Kd.C_below HRp0.out hb)
          replace HRp1 := Aside0.mk (Kd.C_below HRp1.out hb)
          replace HRc0 := Aside0.mk (Kd.C_below HRc0.out hb)
          replace HRc1 := Aside0.mk (Kd.C_below HRc1.out hb)
          replace HRd0 := Aside0.mk (Kd.C_below HRd0.out hb)
          replace HRd1 := Aside0.mk (Kd.C_below HRd1.out hb)
          replace HRe0 := Aside0.mk (Kd.C_below HRe0.out hb)
          replace HRe1 := Aside0.mk (Kd.C_below HRe1.out hb)
          replace KX := Aside0.mk (KX.out.below hb)
          replace KY := Aside0.mk (KY.out.below hb)
          replace KA := Aside0.mk (KA.out.below hb)
          replace KB := Aside0.mk (KB.out.below hb)
          replace KP := Aside0.mk (KP.out.below hb)
          replace KC := Aside0.mk (KC.out.below hb)
          replace KD := Aside0.mk (KD.out.below hb)
          replace KE := Aside0.mk (KE.out.below hb)
          clear hb
          rw [decide_eq_true M1.out, decide_eq_true M2.out, Bool.and_self]
          have hE0 := KE.out.c0
          have hE1 := KE.out.c1
          have hX0 := KX.out.c0
          have hX1 := KX.out.c1
          go_wp2_with fail
          clear hE0 hE1 hX0 hX1
          refine (same_any Ae0 ce0 Le0 Ae1 ce1 Le1 Ax0 cx0 lx0 Ax1 cx1 lx1 _ HRe0.out HCe0.out HRe1.out HCe1.out HRx0.out HCx0.out HRx1.out HCx1.out).mono ?_
          rintro e w18 ⟨rfl, hb⟩
          replace HB := Aside0.mk (below_step HB.out hb)
          replace HRx0 := Aside0.mk (Kd.C_below HRx0.out hb)
          replace HRx1 := Aside0.mk (Kd.C_below HRx1.out hb)
          replace HRy0 := Aside0.mk (Kd.C_below HRy0.out hb)
          replace HRy1 := Aside0.mk (Kd.C_below HRy1.out hb)
          replace HRa0 := Aside0.mk (Kd.C_below HRa0.out hb)
          replace HRa1 := Aside0.mk (Kd.C_below HRa1.out hb)
          replace HRb0 := Aside0.mk (Kd.C_below HRb0.out hb)
          replace HRb1 := Aside0.mk (Kd.C_below HRb1.out hb)
          replace HRp0 := Aside0.mk (Kd.C_below HRp0.out hb)
          replace HRp1 := Aside0.mk (Kd.C_below HRp1.out hb)
          replace HRc0 := Aside0.mk (Kd.C_below HRc0.out hb)
          replace HRc1 := Aside0.mk (Kd.C_below HRc1.out hb)
          replace HRd0 := Aside0.mk (Kd.C_below HRd0.out hb)
          replace HRd1 := Aside0.mk (Kd.C_below HRd1.out hb)
          replace HRe0 := Aside0.mk (Kd.C_below HRe0.out hb)
          replace HRe1 := Aside0.mk (Kd.C_below HRe1.out hb)
          replace KX := Aside0.mk (KX.out.below hb)
          replace KY := Aside0.mk (KY.out.below hb)
          replace KA := Aside0.mk (KA.out.below hb)
          replace KB := Aside0.mk (KB.out.below hb)
          replace KP := Aside0.mk (KP.out.below hb)
          replace KC := Aside0.mk (KC.out.below hb)
          replace KD := Aside0.mk (KD.out.below hb)
          replace KE := Aside0.mk (KE.out.below hb)
          clear hb
          rw [decide_eq_true M3.out, decide_eq_true M4.out, Bool.and_self]
          go_wp2_with fail
          refine (known_any _).mono ?_
          rintro e w19 ⟨rfl, hb⟩
          replace HB := Aside0.mk (below_step HB.out hb)
          replace HRx0 := Aside0.mk (Kd.C_below HRx0.out hb)
          replace HRx1 := Aside0.mk (Kd.C_below HRx1.out hb)
          replace HRy0 := Aside0.mk (Kd.C_below HRy0.out hb)
          replace HRy1 := Aside0.mk (Kd.C_below HRy1.out hb)
          replace HRa0 := Aside0.mk (Kd.C_below HRa0.out hb)
          replace HRa1 := Aside0.mk (Kd.C_below HRa1.out hb)
          replace HRb0 := Aside0.mk (Kd.C_below HRb0.out hb)
          replace HRb1 := Aside0.mk (Kd.C_below HRb1.out hb)
          replace HRp0 := Aside0.mk (Kd.C_below HRp0.out hb)
          replace HRp1 := Aside0.mk (Kd.C_below HRp1.out hb)
          replace HRc0 := Aside0.mk (Kd.C_below HRc0.out hb)
          replace HRc1 := Aside0.mk (Kd.C_below HRc1.out hb)
          replace HRd0 := Aside0.mk (Kd.C_below HRd0.out hb)
          replace HRd1 := Aside0.mk (Kd.C_below HRd1.out hb)
          replace HRe0 := Aside0.mk (Kd.C_below HRe0.out hb)
          replace HRe1 := Aside0.mk (Kd.C_below HRe1.out hb)
          replace KX := Aside0.mk (KX.out.below hb)
          replace KY := Aside0.mk (KY.out.below hb)
          replace KA := Aside0.mk (KA.out.below hb)
          replace KB := Aside0.mk (KB.out.below hb)
          replace KP := Aside0.mk (KP.out.below hb)
          replace KC := Aside0.mk (KC.out.below hb)
          replace KD := Aside0.mk (KD.out.below hb)
          replace KE := Aside0.mk (KE.out.below hb)
          clear hb
          go_wp2_with fail
          go_ret
          exact ⟨rfl, HB.out⟩
        ·
          have hF1 : (notE ly0 ly1 n != 0) = true := bne_iff_ne.2 hF
          have hF2 : (notE ly0 ly1 n == 0) = false := beq_eq_false_iff_ne.2 hF
          rw [hE]
          obtain ⟨w8, hW8⟩ : ∃ x, w7.alloc (.cells #[.slice Ab0 Lb0.length cb0, .slice Ab1 Lb1.length cb1] 29) = x := ⟨_, rfl⟩
          have hb : Below w7.heap.size w7 w8 := by rw [← hW8]; exact below_alloc (Below.refl _ _) _
          replace HB := Aside0.mk (below_step HB.out hb)
          replace HRx0 := Aside0.mk (Kd.C_below HRx0.out hb)
          replace HRx1 := Aside0.mk (Kd.C_below HRx1.out hb)
          replace HRy0 := Aside0.mk (Kd.C_below HRy0.out hb)
          replace HRy1 := Aside0.mk (Kd.C_below HRy1.out hb)
          replace HRa0 := Aside0.mk (Kd.C_below HRa0.out hb)
          replace HRa1 := Aside0.mk (Kd.C_below HRa1.out hb)
          replace HRb0 := Aside0.mk (Kd.C_below HRb0.out hb)
          replace HRb1 := Aside0.mk (Kd.C_below HRb1.out hb)
          replace KX := Aside0.mk (KX.out.below hb)
          replace KY := Aside0.mk (KY.out.below hb)
          replace KA := Aside0.mk (KA.out.below hb)
          clear hb
          have KB : Aside0 (Held w8 (w7.heap.size) (.slice Ab0 Lb0.length cb0) (.slice Ab1 Lb1.length cb1)) := ⟨by rw [← hW8]; exact Held.new _ _ _⟩
          have AhW8 := Aside0.mk hW8
          clear hW8
          go_wp2_with fail
          rw [AhW8.out]
          clear AhW8
          refine (known_any _).mono ?_
          rintro e w9 ⟨rfl, hb⟩
          replace HB := Aside0.mk (below_step HB.out hb)
          replace HRx0 := Aside0.mk (Kd.C_below HRx0.out hb)
          replace HRx1 := Aside0.mk (Kd.C_below HRx1.out hb)
          replace HRy0 := Aside0.mk (Kd.C_below HRy0.out hb)
          replace HRy1 := Aside0.mk (Kd.C_below HRy1.out hb)
          replace HRa0 := Aside0.mk (Kd.C_below HRa0.out hb)
          replace HRa1 := Aside0.mk (Kd.C_below HRa1.out hb)
          replace HRb0 := Aside0.mk (Kd.C_below HRb0.out hb)
          replace HRb1 := Aside0.mk (Kd.C_below HRb1.out hb)
          replace KX := Aside0.mk (KX.out.below hb)
          replace KY := Aside0.mk (KY.out.below hb)
          replace KA := Aside0.mk (KA.out.below hb)
          replace KB := Aside0.mk (KB.out.below hb)
          clear hb
          go_wp2_with fail
          go_ret
          exact ⟨rfl, HB.out⟩
      ·
        have hE1 : (notE lx0 lx1 n != 0) = true := bne_iff_ne.2 hE
        have hE2 : (notE lx0 lx1 n == 0) = false := beq_eq_false_iff_ne.2 hE
        obtain ⟨w8, hW8⟩ : ∃ x, w7.alloc (.cells #[.slice Ab0 Lb0.length cb0, .slice Ab1 Lb1.length cb1] 29) = x := ⟨_, rfl⟩
        have hb : Below w7.heap.size w7 w8 := by rw [← hW8]; exact below_alloc (Below.refl _ _) _
        replace HB := Aside0.mk (below_step HB.out hb)
        replace HRx0 := Aside0.mk (Kd.C_below HRx0.out hb)
        replace HRx1 := Aside0.mk (Kd.C_below HRx1.out hb)
        replace HRy0 := Aside0.mk (Kd.C_below HRy0.out hb)
        replace HRy1 := Aside0.mk (Kd.C_below HRy1.out hb)
        replace HRa0 := Aside0.mk (Kd.C_below HRa0.out hb)
        replace HRa1 := Aside0.mk (Kd.C_below HRa1.out hb)
        replace HRb0 := Aside0.mk (Kd.C_below HRb0.out hb)
        replace HRb1 := Aside0.mk (Kd.C_below HRb1.out hb)
        replace KX := Aside0.mk (KX.out.below hb)
        replace KY := Aside0.mk (KY.out.below hb)
        replace KA := Aside0.mk (KA.out.below hb)
        clear hb
        have KB : Aside0 (Held w8 (w7.heap.size) (.slice Ab0 Lb0.length cb0) (.slice Ab1 Lb1.length cb1)) := ⟨by rw [← hW8]; exact Held.new _ _ _⟩
        have AhW8 := Aside0.mk hW8
        clear hW8
        go_wp2_with fail
        rw [AhW8.out]
        clear AhW8
        refine (known_any _).mono ?_
        rintro e w9 ⟨rfl, hb⟩
        replace HB := Aside0.mk (below_step HB.out hb)
        replace HRx0 := Aside0.mk (Kd.C_below HRx0.out hb)
        replace HRx1 := Aside0.mk (Kd.C_below HRx1.out hb)
        replace HRy0 := Aside0.mk (Kd.C_below HRy0.out hb)
        replace HRy1 := Aside0.mk (Kd.C_below HRy1.out hb)
        replace HRa0 := Aside0.mk (Kd.C_below HRa0.out hb)
        replace HRa1 := Aside0.mk (Kd.C_below HRa1.out hb)
        replace HRb0 := Aside0.mk (Kd.C_below HRb0.out hb)
        replace HRb1 := Aside0.mk (Kd.C_below HRb1.out hb)
        replace KX := Aside0.mk (KX.out.below hb)
        replace KY := Aside0.mk (KY.out.below hb)
        replace KA := Aside0.mk (KA.out.below hb)
        replace KB := Aside0.mk (KB.out.below hb)
        clear hb
        go_wp2_with fail
        go_ret
        exact ⟨rfl, HB.out⟩
    ·
      go_wp2_with fail
      refine (known_any _).mono ?_
      rintro e w5 ⟨rfl, hb⟩
      replace HB := Aside0.mk (below_step HB.out hb)
      replace HRx0 := Aside0.mk (Kd.C_below HRx0.out hb)
      replace HRx1 := Aside0.mk (Kd.C_below HRx1.out hb)
      replace HRy0 := Aside0.mk (Kd.C_below HRy0.out hb)
      replace HRy1 := Aside0.mk (Kd.C_below HRy1.out hb)
      replace KX := Aside0.mk (KX.out.below hb)
      replace KY := Aside0.mk (KY.out.below hb)
      clear hb
      go_wp2_with fail
      go_ret
      exact ⟨rfl, HB.out⟩
  ·
    go_wp2_with fail
    refine (known_any _).mono ?_
    rintro e w4 ⟨rfl, hb⟩
    replace HB := Aside0.mk (below_step HB.out hb)
    replace HRx0 := Aside0.mk (Kd.C_below HRx0.out hb)
    replace HRx1 := Aside0.mk (Kd.C_below HRx1.out hb)
    replace HRy0 := Aside0.mk (Kd.C_below HRy0.out hb)
    replace HRy1 := Aside0.mk (Kd.C_below HRy1.out hb)
    replace KX := Aside0.mk (KX.out.below hb)
    replace KY := Aside0.mk (KY.out.below hb)
    clear hb
    go_wp2_with fail
    go_ret
    exact ⟨rfl, HB.out⟩
end Go.Proofs.Ytpbdlkbiiglkdaa

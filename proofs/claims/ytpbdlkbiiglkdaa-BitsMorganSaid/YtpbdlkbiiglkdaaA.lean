/- joined: what is kept of two sets. -/
import Derived.Test.YtpbdlkbiiglkdaaCanonE
import Derived.Test.YtpbdlkbiiglkdaaPAllx
set_option linter.unusedVariables false
set_option linter.unusedSimpArgs false
namespace Go.Proofs.Ytpbdlkbiiglkdaa
open Go.RowKit Go.Proofs.YtpbdlkbiiglkdaaW.PrintWords Go.Proofs.YtpbdlkbiiglkdaaW.PrintLast Go.Proofs.YtpbdlkbiiglkdaaW.PrintMore Go.Proofs.Cab

/-- What is kept of two lists in ascending order. -/
def joinF (f : Bool → Bool → Bool) : List Int → List Int → List Int
  | [], [] => []
  | x :: xs, [] => (if f true false then [x] else []) ++ joinF f xs []
  | [], y :: ys => (if f false true then [y] else []) ++ joinF f [] ys
  | x :: xs, y :: ys =>
    if x < y then (if f true false then [x] else []) ++ joinF f xs (y :: ys)
    else if y < x then (if f false true then [y] else []) ++ joinF f (x :: xs) ys
    else (if f true true then [x] else []) ++ joinF f xs ys
termination_by xs ys => xs.length + ys.length

theorem joinF_length (f : Bool → Bool → Bool) : ∀ (n : Nat) (xs ys : List Int), xs.length + ys.length = n → (joinF f xs ys).length ≤ n := by
  intro n
  induction n using Nat.strongRecOn with
  | _ n ih =>
    intro xs ys hn
    have one : ∀ (b : Bool) (x : Int), (if b then [x] else []).length ≤ 1 := fun b x => by cases b <;> simp
    cases xs with
    | nil =>
      cases ys with
      | nil => simp [joinF]
      | cons y ys =>
        simp only [joinF, List.length_append]
        have := ih (n - 1) (by simp at hn; omega) [] ys (by simp at hn ⊢; omega)
        have := one (f false true) y
        simp at hn
        omega
    | cons x xs =>
      cases ys with
      | nil =>
        simp only [joinF, List.length_append]
        have := ih (n - 1) (by simp at hn; omega) xs [] (by simp at hn ⊢; omega)
        have := one (f true false) x
        simp at hn
        omega
      | cons y ys =>
        simp only [joinF]
        split
        · rw [List.length_append]
          have := ih (n - 1) (by simp at hn; omega) xs (y :: ys) (by simp at hn ⊢; omega)
          have := one (f true false) x
          simp at hn
          omega
        · split
          · rw [List.length_append]
            have := ih (n - 1) (by simp at hn; omega) (x :: xs) ys (by simp at hn ⊢; omega)
            have := one (f false true) y
            simp at hn
            omega
          · rw [List.length_append]
            have := ih (n - 2) (by simp at hn; omega) xs ys (by simp at hn ⊢; omega)
            have := one (f true true) x
            simp at hn
            omega

theorem joinF_gt (f : Bool → Bool → Bool) {x y : Int} {xs ys : List Int} (h : y < x) : joinF f (x :: xs) (y :: ys) = (if f false true then [y] else []) ++ joinF f (x :: xs) ys := by
  rw [joinF, if_neg (by omega), if_pos h]
theorem info3 : (Try.prog.info? 3).map (fun i => (i.zero, i.size, i.bytes)) = some (some (.int .i64 0), 1, 8) := by kernel_rfl

theorem add0 (a : Addr) : a.add (Int.toNat 0) = a := by simp [Addr.add]
theorem cut1 {w : World} {ad : Addr} {c : Nat} {x : Int} {xs : List Int} (h : Kd.C (Kd.int .i64) w (some ad) (xs.length + 1) (x :: xs)) (hc : xs.length + 1 ≤ c) :
    ∃ A' : Option Addr, (∀ W : World, (Instr.slice 22 (.slice (some ad) (xs.length + 1) c) (some (.int .i64 1)) none none).run Try.prog W = .ok (.slice A' xs.length (c - 1)) W) ∧
      Kd.C (Kd.int .i64) w A' xs.length xs ∧ xs.length ≤ c - 1 := by
  obtain ⟨i0, hi, hz⟩ := Option.map_eq_some_iff.1 info3
  simp only [Prod.mk.injEq] at hz
  refine ⟨_, fun W => by simpa using cut_from (P := Try.prog) 22 3 .i64 Try.underlying22 hi 1 hz.2.1 (some ad) (xs.length + 1) c 1 (by omega) (by omega) W, ?_, by omega⟩
  have := Kd.C_drop (k := Kd.int .i64) (m := 1) (c := c) (xs := x :: xs) (w := w) (A := some ad) (by simpa using h) (by simp) (by simpa using hc)
  simpa [Kd.int, Kd.scalar] using this

section
variable {ops : Array Oper} {rest : List Oper} {o : Oper} {a : Act} {Q : Exit → Act → World → Prop}
/-- append(v, y) on a row of ints of the call's own. -/
theorem app1 {w0 W : World} (base : Nat) (hgd : o.guard = none) (s x : Operand) (ho : o.op = .call { callee := .builtin .append, args := #[s, x], argTypes := #[22, 22] })
    (v : Value) (xs : List Int) (y : Int) (hs : a.eval s = v) (hx : a.eval x = .slice (some ⟨W.heap.size, 0, none⟩) 1 1) (HO : Kd.R (Kd.int .i64) 3 W base (fun _ => True) v xs) (HB : Below base w0 W) (hbase : base ≤ W.heap.size) (hl : xs.length < 17592186044416)
    (h : ∀ v1 w1, Kd.R (Kd.int .i64) 3 w1 base (fun _ => True) v1 (xs ++ [y]) → Below base w0 w1 → wpList Try.prog ops Q rest (a.put o.dst v1) w1) :
    wpList Try.prog ops Q (o :: rest) a (W.alloc (.cells #[.int .i64 y] 3)) :=
  Kd.R_append (Kd.int .i64) (w0 := w0) base hgd s x 22 3 (.int .i64 0) 8 ho Try.underlying22 info3 rfl (by decide) (by omega) v xs y [.int .i64 y] (fun _ => True) (fun _ => False) hs hx rfl (fun _ hk => hk.elim) (fun _ _ => trivial) HO HB hbase (by omega)
    fun v1 w1 ho hb _ _ => h v1 w1 ho hb
end

set_option maxHeartbeats 4000000 in
set_option maxRecDepth 100000 in
theorem joined_calls (g : FuncId) (f : Bool → Bool → Bool) (hE : ∀ args W, (callFunc g args).run Try.prog W = .ok (.enter g args) W)
    (HG : ∀ x y W, Calls Try.prog g #[.bool x, .bool y] W fun e W' => e = .returned (.bool (f x y)) ∧ W = W') (A0 : Option Addr) (c0 : Nat) (l0 : List Int) (A1 : Option Addr) (c1 : Nat) (l1 : List Int) (w : World)
    (hr0 : Kd.C (Kd.int .i64) w A0 l0.length l0) (hc0 : l0.length ≤ c0) (hr1 : Kd.C (Kd.int .i64) w A1 l1.length l1) (hc1 : l1.length ≤ c1) (hn0 : l0.length ≤ 3000) (hn1 : l1.length ≤ 3000) :
    Calls Try.prog 49 #[.slice A0 l0.length c0, .slice A1 l1.length c1, .func (.func g) #[] #[]] w fun e w' => ∃ v0_ : Value, e = .returned v0_ ∧ Kd.R (Kd.int .i64) 3 w' w.heap.size (fun _ => True) v0_ (joinF f l0 l1) ∧ Below w.heap.size w w' := by
  have HR0 := Aside0.mk hr0
  have HC0 := Aside0.mk hc0
  have HR1 := Aside0.mk hr1
  have HC1 := Aside0.mk hc1
  clear hr0 hc0 hr1 hc1
  have HG' := Aside0.mk HG
  clear HG
  have HB := Aside0.mk (Below.refl w.heap.size w)
  go_enter Try.func49, Try.ntmps49
  go_wp2
  go_loopg [0, 1, 7] (l0.length + l1.length) (fun n v0 v1 v7 w' => ∃ (A c : _) (xs : List Int) (B d : _) (ys out : List Int), v0 = .slice A xs.length c ∧ v1 = .slice B ys.length d ∧ Aside0 (xs.length + ys.length = n) ∧ Aside0 (out ++ joinF f xs ys = joinF f l0 l1) ∧ Aside0 (out.length + xs.length + ys.length ≤ 6000) ∧
    Aside0 (Kd.C (Kd.int .i64) w A xs.length xs ∧ xs.length ≤ c ∧ Kd.C (Kd.int .i64) w B ys.length ys ∧ ys.length ≤ d) ∧ Aside0 (Kd.R (Kd.int .i64) 3 w' w.heap.size (fun _ => True) v7 out) ∧ Aside0 (Below w.heap.size w w'))
  case atStart => exact ⟨A0, c0, l0, A1, c1, l1, [], rfl, rfl, ⟨rfl⟩, ⟨rfl⟩, ⟨by simp; omega⟩, ⟨HR0.out, HC0.out, HR1.out, HC1.out⟩, ⟨Kd.R_nil _ _ _ _ _⟩, HB⟩
  case round =>
    clear HB
    obtain ⟨A, c, xs, B, d, ys, out, rfl, rfl, hn', HE, HL, HX, HO, HB⟩ := hrel
    cases xs with
    | nil =>
      cases ys with
      | nil =>
        go_wp2
        go_ret
        refine ⟨_, rfl, ?_, HB.out⟩
        have := HE.out
        simp [joinF] at this
        rw [← this]
        exact HO.out
      | cons y ys =>
        obtain ⟨hx1, hx2, hx3, hx4⟩ := HX.out
        obtain ⟨ad, rfl, hcell⟩ := Kd.at_int hx3 0 (by omega) (by simp)
        have hcell : wr.cell? ad = some (.int .i64 y) := by rw [← add0 ad]; exact (HB.out.cell (World.block_lt_of_cell? w _ hcell)).trans hcell
        obtain ⟨B', hcut, hB', hd'⟩ := cut1 hx3 hx4
        have HX' := Aside0.mk (And.intro hx1 (And.intro hx2 (And.intro hB' hd')))
        clear hB' hd' hx1 hx2 hx3 hx4 HX
        have hz : ((ys.length : Int) + 1 == 0) = false := by simp; omega
        cases hf : f false true
        · have HF := Aside0.mk hf
          clear hf
          go_wp2
          refine wp_region_segs (by kernel_rfl) [(false, [0, 1, 2, 3, 4, 5, 6, 7, 8, 9, 11, 12, 10, 13, 14, 15, 16, 17])] (by decide) (by kernel_rfl) ?_
          simp only [wpSegs, pickOps, List.getElem?_toArray, List.getElem?_cons_succ, List.getElem?_cons_zero, Bool.false_eq_true, false_implies, true_and, forall_const]
          go_wp2
          refine ⟨rfl, by kernel_rfl, ?_⟩
          go_wp2
          refine wp_region_segs (by kernel_rfl) [(false, [0, 1, 2, 3, 4, 5, 6, 7, 8, 9, 11, 12, 10, 13, 14, 15, 16, 17])] (by decide) (by kernel_rfl) ?_
          simp only [wpSegs, pickOps, List.getElem?_toArray, List.getElem?_cons_succ, List.getElem?_cons_zero, Bool.false_eq_true, false_implies, true_and, forall_const]
          go_wp2
          refine ⟨rfl, by kernel_rfl, ?_⟩
          go_wp2_with fail
          refine (HG'.out _ _ _).mono ?_
          rintro e w' ⟨rfl, rfl⟩
          simp only [HF.out]
          go_wp2
          go_roundg (gk - 1)
          case measure => have := hn'.out; simp at this; omega
          case rel => exact ⟨A, c, [], B', d - 1, ys, out, rfl, rfl, ⟨by have := hn'.out; simp at this ⊢; omega⟩, ⟨by rw [← HE.out]; simp [joinF, HF.out]⟩, ⟨by have := HL.out; simp at this ⊢; omega⟩, HX', ⟨Kd.R_drew (Kd.R_drew HO.out)⟩, ⟨below_drew1 (below_drew1 HB.out)⟩⟩
        · have HF := Aside0.mk hf
          clear hf
          go_wp2
          refine wp_region_segs (by kernel_rfl) [(false, [0, 1, 2, 3, 4, 5, 6, 7, 8, 9, 11, 12, 10, 13, 14, 15, 16, 17])] (by decide) (by kernel_rfl) ?_
          simp only [wpSegs, pickOps, List.getElem?_toArray, List.getElem?_cons_succ, List.getElem?_cons_zero, Bool.false_eq_true, false_implies, true_and, forall_const]
          go_wp2
          refine ⟨rfl, by kernel_rfl, ?_⟩
          go_wp2
          refine wp_region_segs (by kernel_rfl) [(false, [0, 1, 2, 3, 4, 5, 6, 7, 8, 9, 11, 12, 10, 13, 14, 15, 16, 17])] (by decide) (by kernel_rfl) ?_
          simp only [wpSegs, pickOps, List.getElem?_toArray, List.getElem?_cons_succ, List.getElem?_cons_zero, Bool.false_eq_true, false_implies, true_and, forall_const]
          go_wp2
          refine ⟨rfl, by kernel_rfl, ?_⟩
          go_wp2_with fail
          refine (HG'.out _ _ _).mono ?_
          rintro e w' ⟨rfl, rfl⟩
          simp only [HF.out]
          go_wp2_with (at_builtin; refine app1 (w0 := w) w.heap.size rfl _ _ rfl u7 out y rfl rfl ((Kd.R_drew (Kd.R_drew HO.out))) (below_drew1 (below_drew1 HB.out)) (below_size (below_drew1 (below_drew1 HB.out))) (by have := HL.out; omega) ?_; intro v1 w1 ho hb; have HO1 := Aside0.mk ho; have HB1 := Aside0.mk hb; clear ho hb)
          go_roundg (gk - 1)
          case measure => have := hn'.out; simp at this; omega
          case rel => exact ⟨A, c, [], B', d - 1, ys, out ++ [y], rfl, rfl, ⟨by have := hn'.out; simp at this ⊢; omega⟩, ⟨by rw [← HE.out]; simp [joinF, HF.out]⟩, ⟨by have := HL.out; simp at this ⊢; omega⟩, HX', HO1, HB1⟩
    | cons x xs =>
      cases ys with
      | nil =>
        obtain ⟨hx1, hx2, hx3, hx4⟩ := HX.out
        obtain ⟨ad, rfl, hcell⟩ := Kd.at_int hx1 0 (by omega) (by simp)
        have hcell : wr.cell? ad = some (.int .i64 x) := by rw [← add0 ad]; exact (HB.out.cell (World.block_lt_of_cell? w _ hcell)).trans hcell
        obtain ⟨B', hcut, hB', hd'⟩ := cut1 hx1 hx2
        have HX' := Aside0.mk (And.intro hB' (And.intro hd' (And.intro hx3 hx4)))
        clear hB' hd' hx1 hx2 hx3 hx4 HX
        have hz : ((xs.length : Int) + 1 == 0) = false := by simp; omega
        cases hf : f true false
        · have HF := Aside0.mk hf
          clear hf
          go_wp2
          refine wp_region_segs (by kernel_rfl) [(false, [0, 1, 2, 3, 4, 5, 6, 7, 8, 9, 11, 12, 10, 13, 14, 15, 16, 17])] (by decide) (by kernel_rfl) ?_
          simp only [wpSegs, pickOps, List.getElem?_toArray, List.getElem?_cons_succ, List.getElem?_cons_zero, Bool.false_eq_true, false_implies, true_and, forall_const]
          go_wp2
          refine ⟨rfl, by kernel_rfl, ?_⟩
          go_wp2
          refine wp_region_segs (by kernel_rfl) [(false, [0, 1, 2, 3, 4, 5, 6, 7, 8, 9, 11, 12, 10, 13, 14, 15, 16, 17])] (by decide) (by kernel_rfl) ?_
          simp only [wpSegs, pickOps, List.getElem?_toArray, List.getElem?_cons_succ, List.getElem?_cons_zero, Bool.false_eq_true, false_implies, true_and, forall_const]
          go_wp2
          refine ⟨rfl, by kernel_rfl, ?_⟩
          go_wp2_with fail
          refine (HG'.out _ _ _).mono ?_
          rintro e w' ⟨rfl, rfl⟩
          simp only [HF.out]
          go_wp2
          go_roundg (gk - 1)
          case measure => have := hn'.out; simp at this; omega
          case rel => exact ⟨B', c - 1, xs, B, d, [], out, rfl, rfl, ⟨by have := hn'.out; simp at this ⊢; omega⟩, ⟨by rw [← HE.out]; simp [joinF, HF.out]⟩, ⟨by have := HL.out; simp at this ⊢; omega⟩, HX', ⟨Kd.R_drew (Kd.R_drew HO.out)⟩, ⟨below_drew1 (below_drew1 HB.out)⟩⟩
        · have HF := Aside0.mk hf
          clear hf
          go_wp2
          refine wp_region_segs (by kernel_rfl) [(false, [0, 1, 2, 3, 4, 5, 6, 7, 8, 9, 11, 12, 10, 13, 14, 15, 16, 17])] (by decide) (by kernel_rfl) ?_
          simp only [wpSegs, pickOps, List.getElem?_toArray, List.getElem?_cons_succ, List.getElem?_cons_zero, Bool.false_eq_true, false_implies, true_and, forall_const]
          go_wp2
          refine ⟨rfl, by kernel_rfl, ?_⟩
          go_wp2
          refine wp_region_segs (by kernel_rfl) [(false, [0, 1, 2, 3, 4, 5, 6, 7, 8, 9, 11, 12, 10, 13, 14, 15, 16, 17])] (by decide) (by kernel_rfl) ?_
          simp only [wpSegs, pickOps, List.getElem?_toArray, List.getElem?_cons_succ, List.getElem?_cons_zero, Bool.false_eq_true, false_implies, true_and, forall_const]
          go_wp2
          refine ⟨rfl, by kernel_rfl, ?_⟩
          go_wp2_with fail
          refine (HG'.out _ _ _).mono ?_
          rintro e w' ⟨rfl, rfl⟩
          simp only [HF.out]
          go_wp2_with (at_builtin; refine app1 (w0 := w) w.heap.size rfl _ _ rfl u7 out x rfl rfl ((Kd.R_drew (Kd.R_drew HO.out))) (below_drew1 (below_drew1 HB.out)) (below_size (below_drew1 (below_drew1 HB.out))) (by have := HL.out; omega) ?_; intro v1 w1 ho hb; have HO1 := Aside0.mk ho; have HB1 := Aside0.mk hb; clear ho hb)
          go_roundg (gk - 1)
          case measure => have := hn'.out; simp at this; omega
          case rel => exact ⟨B', c - 1, xs, B, d, [], out ++ [x], rfl, rfl, ⟨by have := hn'.out; simp at this ⊢; omega⟩, ⟨by rw [← HE.out]; simp [joinF, HF.out]⟩, ⟨by have := HL.out; simp at this ⊢; omega⟩, HX', HO1, HB1⟩
      | cons y ys =>
        obtain ⟨hx1, hx2, hx3, hx4⟩ := HX.out
        obtain ⟨ad, rfl, hcell⟩ := Kd.at_int hx1 0 (by omega) (by simp)
        have hcell : wr.cell? ad = some (.int .i64 x) := by rw [← add0 ad]; exact (HB.out.cell (World.block_lt_of_cell? w _ hcell)).trans hcell
        obtain ⟨ad2, rfl, hcell2⟩ := Kd.at_int hx3 0 (by omega) (by simp)
        have hcell2 : wr.cell? ad2 = some (.int .i64 y) := by rw [← add0 ad2]; exact (HB.out.cell (World.block_lt_of_cell? w _ hcell2)).trans hcell2
        obtain ⟨A', hcut, hA', hc'⟩ := cut1 hx1 hx2
        obtain ⟨B', hcut2, hB', hd'⟩ := cut1 hx3 hx4
        have HX' := Aside0.mk (And.intro (And.intro hA' hc') (And.intro hB' hd'))
        clear hB' hd' hA' hc' hx1 hx2 hx3 hx4
        have hz : ((xs.length : Int) + 1 == 0) = false := by simp; omega
        have hz2 : ((ys.length : Int) + 1 == 0) = false := by simp; omega
        by_cases hxy : x < y
        · have h1 : decide (x ≤ y) = true := by simp; omega
          have h2 : decide (y ≤ x) = false := by simp; omega
          have HXY := Aside0.mk hxy
          clear hxy
          cases hf : f true false
          · have HF := Aside0.mk hf
            clear hf
            go_wp2
            refine wp_region_segs (by kernel_rfl) [(false, [0, 1, 2, 3, 4, 5, 6, 7, 8, 9, 11, 12, 10, 13, 14, 15, 16, 17])] (by decide) (by kernel_rfl) ?_
            simp only [wpSegs, pickOps, List.getElem?_toArray, List.getElem?_cons_succ, List.getElem?_cons_zero, Bool.false_eq_true, false_implies, true_and, forall_const]
            go_wp2
            refine ⟨rfl, by kernel_rfl, ?_⟩
            go_wp2
            refine wp_region_segs (by kernel_rfl) [(false, [0, 1, 2, 3, 4, 5, 6, 7, 8, 9, 11, 12, 10, 13, 14, 15, 16, 17])] (by decide) (by kernel_rfl) ?_
            simp only [wpSegs, pickOps, List.getElem?_toArray, List.getElem?_cons_succ, List.getElem?_cons_zero, Bool.false_eq_true, false_implies, true_and, forall_const]
            go_wp2
            refine ⟨rfl, by kernel_rfl, ?_⟩
            go_wp2_with fail
            refine (HG'.out _ _ _).mono ?_
            rintro e w' ⟨rfl, rfl⟩
            simp only [HF.out]
            go_wp2
            go_roundg (gk - 1)
            case measure => have := hn'.out; simp at this; omega
            case rel => exact ⟨A', c - 1, xs, some ad2, d, y :: ys, out, rfl, rfl, ⟨by have := hn'.out; simp at this ⊢; omega⟩, ⟨by rw [← HE.out]; simp [joinF, HF.out, HXY.out]⟩, ⟨by have := HL.out; simp at this ⊢; omega⟩, ⟨HX'.out.1.1, HX'.out.1.2, HX.out.2.2.1, HX.out.2.2.2⟩, ⟨Kd.R_drew (Kd.R_drew HO.out)⟩, ⟨below_drew1 (below_drew1 HB.out)⟩⟩
          · have HF := Aside0.mk hf
            clear hf
            go_wp2
            refine wp_region_segs (by kernel_rfl) [(false, [0, 1, 2, 3, 4, 5, 6, 7, 8, 9, 11, 12, 10, 13, 14, 15, 16, 17])] (by decide) (by kernel_rfl) ?_
            simp only [wpSegs, pickOps, List.getElem?_toArray, List.getElem?_cons_succ, List.getElem?_cons_zero, Bool.false_eq_true, false_implies, true_and, forall_const]
            go_wp2
            refine ⟨rfl, by kernel_rfl, ?_⟩
            go_wp2
            refine wp_region_segs (by kernel_rfl) [(false, [0, 1, 2, 3, 4, 5, 6, 7, 8, 9, 11, 12, 10, 13, 14, 15, 16, 17])] (by decide) (by kernel_rfl) ?_
            simp only [wpSegs, pickOps, List.getElem?_toArray, List.getElem?_cons_succ, List.getElem?_cons_zero, Bool.false_eq_true, false_implies, true_and, forall_const]
            go_wp2
            refine ⟨rfl, by kernel_rfl, ?_⟩
            go_wp2_with fail
            refine (HG'.out _ _ _).mono ?_
            rintro e w' ⟨rfl, rfl⟩
            simp only [HF.out]
            go_wp2_with (at_builtin; refine app1 (w0 := w) w.heap.size rfl _ _ rfl u7 out x rfl rfl ((Kd.R_drew (Kd.R_drew HO.out))) (below_drew1 (below_drew1 HB.out)) (below_size (below_drew1 (below_drew1 HB.out))) (by have := HL.out; omega) ?_; intro v1 w1 ho hb; have HO1 := Aside0.mk ho; have HB1 := Aside0.mk hb; clear ho hb)
            go_roundg (gk - 1)
            case measure => have := hn'.out; simp at this; omega
            case rel => exact ⟨A', c - 1, xs, some ad2, d, y :: ys, out ++ [x], rfl, rfl, ⟨by have := hn'.out; simp at this ⊢; omega⟩, ⟨by rw [← HE.out]; simp [joinF, HF.out, HXY.out]⟩, ⟨by have := HL.out; simp at this ⊢; omega⟩, ⟨HX'.out.1.1, HX'.out.1.2, HX.out.2.2.1, HX.out.2.2.2⟩, HO1, HB1⟩
        · by_cases hyx : y < x
          · have h1 : decide (x ≤ y) = false := by simp; omega
            have h2 : decide (y ≤ x) = true := by simp; omega
            have HXY := Aside0.mk (And.intro hxy hyx)
            clear hxy hyx
            cases hf : f false true
            · have HF := Aside0.mk hf
              clear hf
              go_wp2
              refine wp_region_segs (by kernel_rfl) [(false, [0, 1, 2, 3, 4, 5, 6, 7, 8, 9, 11, 12, 10, 13, 14, 15, 16, 17])] (by decide) (by kernel_rfl) ?_
              simp only [wpSegs, pickOps, List.getElem?_toArray, List.getElem?_cons_succ, List.getElem?_cons_zero, Bool.false_eq_true, false_implies, true_and, forall_const]
              go_wp2
              refine ⟨rfl, by kernel_rfl, ?_⟩
              go_wp2
              refine wp_region_segs (by kernel_rfl) [(false, [0, 1, 2, 3, 4, 5, 6, 7, 8, 9, 11, 12, 10, 13, 14, 15, 16, 17])] (by decide) (by kernel_rfl) ?_
              simp only [wpSegs, pickOps, List.getElem?_toArray, List.getElem?_cons_succ, List.getElem?_cons_zero, Bool.false_eq_true, false_implies, true_and, forall_const]
              go_wp2
              refine ⟨rfl, by kernel_rfl, ?_⟩
              go_wp2_with fail
              refine (HG'.out _ _ _).mono ?_
              rintro e w' ⟨rfl, rfl⟩
              simp only [HF.out]
              go_wp2
              go_roundg (gk - 1)
              case measure => have := hn'.out; simp at this; omega
              case rel => exact ⟨some ad, c, x :: xs, B', d - 1, ys, out, rfl, rfl, ⟨by have := hn'.out; simp at this ⊢; omega⟩, ⟨by rw [← HE.out, joinF_gt f HXY.out.2, HF.out]; simp⟩, ⟨by have := HL.out; simp at this ⊢; omega⟩, ⟨HX.out.1, HX.out.2.1, HX'.out.2.1, HX'.out.2.2⟩, ⟨Kd.R_drew (Kd.R_drew HO.out)⟩, ⟨below_drew1 (below_drew1 HB.out)⟩⟩
            · have HF := Aside0.mk hf
              clear hf
              go_wp2
              refine wp_region_segs (by kernel_rfl) [(false, [0, 1, 2, 3, 4, 5, 6, 7, 8, 9, 11, 12, 10, 13, 14, 15, 16, 17])] (by decide) (by kernel_rfl) ?_
              simp only [wpSegs, pickOps, List.getElem?_toArray, List.getElem?_cons_succ, List.getElem?_cons_zero, Bool.false_eq_true, false_implies, true_and, forall_const]
              go_wp2
              refine ⟨rfl, by kernel_rfl, ?_⟩
              go_wp2
              refine wp_region_segs (by kernel_rfl) [(false, [0, 1, 2, 3, 4, 5, 6, 7, 8, 9, 11, 12, 10, 13, 14, 15, 16, 17])] (by decide) (by kernel_rfl) ?_
              simp only [wpSegs, pickOps, List.getElem?_toArray, List.getElem?_cons_succ, List.getElem?_cons_zero, Bool.false_eq_true, false_implies, true_and, forall_const]
              go_wp2
              refine ⟨rfl, by kernel_rfl, ?_⟩
              go_wp2_with fail
              refine (HG'.out _ _ _).mono ?_
              rintro e w' ⟨rfl, rfl⟩
              simp only [HF.out]
              go_wp2_with (at_builtin; refine app1 (w0 := w) w.heap.size rfl _ _ rfl u7 out y rfl rfl ((Kd.R_drew (Kd.R_drew HO.out))) (below_drew1 (below_drew1 HB.out)) (below_size (below_drew1 (below_drew1 HB.out))) (by have := HL.out; omega) ?_; intro v1 w1 ho hb; have HO1 := Aside0.mk ho; have HB1 := Aside0.mk hb; clear ho hb)
              go_roundg (gk - 1)
              case measure => have := hn'.out; simp at this; omega
              case rel => exact ⟨some ad, c, x :: xs, B', d - 1, ys, out ++ [y], rfl, rfl, ⟨by have := hn'.out; simp at this ⊢; omega⟩, ⟨by rw [← HE.out, joinF_gt f HXY.out.2, HF.out]; simp⟩, ⟨by have := HL.out; simp at this ⊢; omega⟩, ⟨HX.out.1, HX.out.2.1, HX'.out.2.1, HX'.out.2.2⟩, HO1, HB1⟩
          · obtain rfl : x = y := by omega
            have h1 : decide (x ≤ x) = true := by simp
            have HXY := Aside0.mk hxy
            clear hxy hyx
            cases hf : f true true
            · have HF := Aside0.mk hf
              clear hf
              go_wp2
              refine wp_region_segs (by kernel_rfl) [(false, [0, 1, 2, 3, 4, 5, 6, 7, 8, 9, 11, 12, 10, 13, 14, 15, 16, 17])] (by decide) (by kernel_rfl) ?_
              simp only [wpSegs, pickOps, List.getElem?_toArray, List.getElem?_cons_succ, List.getElem?_cons_zero, Bool.false_eq_true, false_implies, true_and, forall_const]
              go_wp2
              refine ⟨rfl, by kernel_rfl, ?_⟩
              go_wp2
              refine wp_region_segs (by kernel_rfl) [(false, [0, 1, 2, 3, 4, 5, 6, 7, 8, 9, 11, 12, 10, 13, 14, 15, 16, 17])] (by decide) (by kernel_rfl) ?_
              simp only [wpSegs, pickOps, List.getElem?_toArray, List.getElem?_cons_succ, List.getElem?_cons_zero, Bool.false_eq_true, false_implies, true_and, forall_const]
              go_wp2
              refine ⟨rfl, by kernel_rfl, ?_⟩
              go_wp2_with fail
              refine (HG'.out _ _ _).mono ?_
              rintro e w' ⟨rfl, rfl⟩
              simp only [HF.out]
              go_wp2
              go_roundg (gk - 2)
              case measure => have := hn'.out; simp at this; omega
              case rel => exact ⟨A', c - 1, xs, B', d - 1, ys, out, rfl, rfl, ⟨by have := hn'.out; simp at this ⊢; omega⟩, ⟨by rw [← HE.out]; simp [joinF, HF.out, HXY.out]⟩, ⟨by have := HL.out; simp at this ⊢; omega⟩, ⟨HX'.out.1.1, HX'.out.1.2, HX'.out.2.1, HX'.out.2.2⟩, ⟨Kd.R_drew (Kd.R_drew HO.out)⟩, ⟨below_drew1 (below_drew1 HB.out)⟩⟩
            · have HF := Aside0.mk hf
              clear hf
              go_wp2
              refine wp_region_segs (by kernel_rfl) [(false, [0, 1, 2, 3, 4, 5, 6, 7, 8, 9, 11, 12, 10, 13, 14, 15, 16, 17])] (by decide) (by kernel_rfl) ?_
              simp only [wpSegs, pickOps, List.getElem?_toArray, List.getElem?_cons_succ, List.getElem?_cons_zero, Bool.false_eq_true, false_implies, true_and, forall_const]
              go_wp2
              refine ⟨rfl, by kernel_rfl, ?_⟩
              go_wp2
              refine wp_region_segs (by kernel_rfl) [(false, [0, 1, 2, 3, 4, 5, 6, 7, 8, 9, 11, 12, 10, 13, 14, 15, 16, 17])] (by decide) (by kernel_rfl) ?_
              simp only [wpSegs, pickOps, List.getElem?_toArray, List.getElem?_cons_succ, List.getElem?_cons_zero, Bool.false_eq_true, false_implies, true_and, forall_const]
              go_wp2
              refine ⟨rfl, by kernel_rfl, ?_⟩
              go_wp2_with fail
              refine (HG'.out _ _ _).mono ?_
              rintro e w' ⟨rfl, rfl⟩
              simp only [HF.out]
              go_wp2_with (at_builtin; refine app1 (w0 := w) w.heap.size rfl _ _ rfl u7 out x rfl rfl ((Kd.R_drew (Kd.R_drew HO.out))) (below_drew1 (below_drew1 HB.out)) (below_size (below_drew1 (below_drew1 HB.out))) (by have := HL.out; omega) ?_; intro v1 w1 ho hb; have HO1 := Aside0.mk ho; have HB1 := Aside0.mk hb; clear ho hb)
              go_roundg (gk - 2)
              case measure => have := hn'.out; simp at this; omega
              case rel => exact ⟨A', c - 1, xs, B', d - 1, ys, out ++ [x], rfl, rfl, ⟨by have := hn'.out; simp at this ⊢; omega⟩, ⟨by rw [← HE.out]; simp [joinF, HF.out, HXY.out]⟩, ⟨by have := HL.out; simp at this ⊢; omega⟩, ⟨HX'.out.1.1, HX'.out.1.2, HX'.out.2.1, HX'.out.2.2⟩, HO1, HB1⟩
theorem inFirst_any (x y : Bool) (W : World) : Calls Try.prog 50 #[.bool x, .bool y] W fun e W' => e = .returned (.bool (x && !y)) ∧ W = W' := by
  cases x <;> (go_enter Try.func50, Try.ntmps50; go_wp2; go_ret; exact ⟨rfl, rfl⟩)
theorem inBoth_any (x y : Bool) (W : World) : Calls Try.prog 53 #[.bool x, .bool y] W fun e W' => e = .returned (.bool (x && y)) ∧ W = W' := by
  cases x <;> (go_enter Try.func53, Try.ntmps53; go_wp2; go_ret; exact ⟨rfl, rfl⟩)
theorem inAny_any (x y : Bool) (W : World) : Calls Try.prog 56 #[.bool x, .bool y] W fun e W' => e = .returned (.bool (x || y)) ∧ W = W' := by
  cases x <;> (go_enter Try.func56, Try.ntmps56; go_wp2; go_ret; exact ⟨rfl, rfl⟩)
theorem enters50 : ∀ args W, (callFunc 50 args).run Try.prog W = .ok (.enter 50 args) W := Go.Proofs.YtpbdlkbiiglkdaaW.PrintLast.enters_ Try.func50 (by kernel_rfl) rfl
theorem enters53 : ∀ args W, (callFunc 53 args).run Try.prog W = .ok (.enter 53 args) W := Go.Proofs.YtpbdlkbiiglkdaaW.PrintLast.enters_ Try.func53 (by kernel_rfl) rfl
theorem enters56 : ∀ args W, (callFunc 56 args).run Try.prog W = .ok (.enter 56 args) W := Go.Proofs.YtpbdlkbiiglkdaaW.PrintLast.enters_ Try.func56 (by kernel_rfl) rfl
def lessF (xs ys : List Int) : List Int := joinF (fun a b => a && !b) xs ys
def bothF (xs ys : List Int) : List Int := joinF (fun a b => a && b) xs ys
def anyF (xs ys : List Int) : List Int := joinF (fun a b => a || b) xs ys

end Go.Proofs.Ytpbdlkbiiglkdaa

/- ranges, pack. -/
import Derived.Test.YtpbdlkbiiglkdaaF
set_option linter.unusedVariables false
set_option linter.unusedSimpArgs false
namespace Go.Proofs.Ytpbdlkbiiglkdaa
open Go.RowKit Go.Proofs.YtpbdlkbiiglkdaaW.PrintWords Go.Proofs.YtpbdlkbiiglkdaaW.PrintLast Go.Proofs.YtpbdlkbiiglkdaaW.PrintMore Go.Proofs.Cab

/-- A pair of ints in two cells. -/
def pk : Kd (Int × Int) := Kd.pair (Kd.int .i64) (Kd.int .i64)
def Own2 (w : World) (n : Nat) (v : Value) (rs : List (Int × Int)) : Prop := Kd.R pk 38 w n (fun _ => True) v rs
theorem info38 : (Try.prog.info? 38).map (fun i => (i.zero, i.size, i.bytes)) = some (some (.agg #[.int .i64 0, .int .i64 0]), 2, 16) := by kernel_rfl
/-- A stretch goes on, or another one begins. -/
def addR (out : List (Int × Int)) (x : Int) : List (Int × Int) := match out.getLast? with
  | some p => if p.2 + 1 = x then out.dropLast ++ [(p.1, x)] else out ++ [(x, x)]
  | none => out ++ [(x, x)]
def rangesF (l : List Int) : List (Int × Int) := l.foldl addR []
theorem addR_snoc (out : List (Int × Int)) (p : Int × Int) (x : Int) : addR (out ++ [p]) x = if p.2 + 1 = x then out ++ [(p.1, x)] else out ++ [p] ++ [(x, x)] := by
  simp [addR]
theorem addR_nil (x : Int) : addR [] x = [(x, x)] := rfl
theorem addR_length (out : List (Int × Int)) (x : Int) : (addR out x).length ≤ out.length + 1 := by
  rcases List.eq_nil_or_concat out with rfl | ⟨m, p, rfl⟩
  · simp [addR_nil]
  · rw [List.concat_eq_append, addR_snoc]
    split
    all_goals (simp only [List.length_append, List.length_cons, List.length_nil]; omega)
theorem foldl_addR_length : ∀ (l : List Int) (out : List (Int × Int)), (l.foldl addR out).length ≤ out.length + l.length
  | [], out => by simp
  | x :: l, out => by
    have := foldl_addR_length l (addR out x)
    have := addR_length out x
    simp
    omega
section
variable {ops : Array Oper} {rest : List Oper} {o : Oper} {a : Act} {Q : Exit → Act → World → Prop}
/-- append(v, [2]int{y, z}) on a row of the call's own. -/
theorem app2 {w0 W : World} (base : Nat) (hgd : o.guard = none) (s x : Operand) (ho : o.op = .call { callee := .builtin .append, args := #[s, x], argTypes := #[35, 35] })
    (v : Value) (rs : List (Int × Int)) (y z : Int) (hs : a.eval s = v) (hx : a.eval x = .slice (some ⟨W.heap.size, 0, none⟩) 1 1) (HO : Own2 W base v rs) (HB : Below base w0 W) (hbase : base ≤ W.heap.size) (hl : rs.length < 8796093022208)
    (h : ∀ v1 w1, Own2 w1 base v1 (rs ++ [(y, z)]) → Below base w0 w1 → wpList Try.prog ops Q rest (a.put o.dst v1) w1) :
    wpList Try.prog ops Q (o :: rest) a (W.alloc (.cells #[.int .i64 y, .int .i64 z] 38)) :=
  Kd.R_append pk (w0 := w0) base hgd s x 35 38 (.agg #[.int .i64 0, .int .i64 0]) 16 ho Try.underlying35 info38 rfl (by decide) (by omega) v rs (y, z) [.int .i64 y, .int .i64 z] (fun _ => True) (fun _ => False) hs hx ⟨[.int .i64 y], [.int .i64 z], rfl, rfl, rfl⟩ (fun _ hk => hk.elim) (fun _ _ => trivial) HO HB hbase (by omega)
    fun v1 w1 ho hb _ _ => h v1 w1 ho hb
end
/-- The last pair of a row of one's own. -/
theorem own2_last {w : World} {n : Nat} {v : Value} {rs : List (Int × Int)} {p : Int × Int} (h : Own2 w n v (rs ++ [p])) :
    ∃ g cap, v = .slice (some ⟨g, 0, none⟩) (rs.length + 1) cap ∧ n ≤ g ∧ w.cell? ⟨g, rs.length * 2, none⟩ = some (.int .i64 p.1) ∧ w.cell? ⟨g, rs.length * 2 + 1, none⟩ = some (.int .i64 p.2) ∧ w.frozen? ⟨g, rs.length * 2 + 1, none⟩ = false ∧
      ∀ x, Own2 (w.setCell ⟨g, rs.length * 2 + 1, none⟩ (.int .i64 x)) n v (rs ++ [(p.1, x)]) := by
  obtain ⟨g, cap, he, hg, _, _⟩ := Kd.R_form h (by simp)
  rw [List.length_append, List.length_singleton] at he
  subst he
  obtain ⟨c, hcl, hM, hc, hf⟩ := Kd.R_elem h (0, 0) (rs.length : Int) (by omega) (by omega)
  have hp : (rs ++ [p]).getD (rs.length : Int).toNat (0, 0) = p := by simp [List.getD_eq_getElem?_getD]
  rw [hp] at hM
  obtain ⟨c0, c1, rfl, h0, h1⟩ := hM
  have h0' : c0 = [.int .i64 p.1] := h0
  have h1' : c1 = [.int .i64 p.2] := h1
  subst h0' h1'
  have hsz : pk.sz = 2 := rfl
  have e0 := hc 0 _ rfl
  have e1 := hc 1 _ rfl
  have f1 := hf 1
  simp only [hsz, Int.toNat_natCast, Nat.add_zero] at e0 e1 f1
  refine ⟨g, cap, rfl, hg, e0, e1, f1, fun x => ?_⟩
  have hs := (Kd.R_seg (okp := fun _ => False) h (rs.length : Int) (by omega) (by omega) (c := [.int .i64 p.1, .int .i64 p.2]) (seg := [.int .i64 x]) (j := 1) rfl hc (by simp [hsz]) (x' := (p.1, x)) ⟨[.int .i64 p.1], [.int .i64 x], rfl, rfl, rfl⟩ (fun _ hk => hk.elim)).1
  simp only [hsz, Int.toNat_natCast] at hs
  have hset : (rs ++ [p]).set rs.length (p.1, x) = rs ++ [(p.1, x)] := by simp
  rw [hset] at hs
  exact hs

set_option maxHeartbeats 4000000 in
set_option maxRecDepth 100000 in
theorem ranges_any (A0 : Option Addr) (c0 : Nat) (l0 : List Int) (w : World) (hr0 : Kd.C (Kd.int .i64) w A0 l0.length l0) (hc0 : l0.length ≤ c0) (hn : l0.length ≤ 3000) (hx : ∀ x ∈ l0, -10000 ≤ x ∧ x ≤ 10000) :
    Calls Try.prog 58 #[.slice A0 l0.length c0] w fun e w' => ∃ v : Value, e = .returned v ∧ Own2 w' w.heap.size v (rangesF l0) ∧ Below w.heap.size w w' := by
  have HR0 := Aside0.mk hr0
  have HC0 := Aside0.mk hc0
  clear hr0 hc0
  have HX := Aside0.mk hx
  clear hx
  go_enter Try.func58, Try.ntmps58
  go_wp2
  go_loopw [3, 9] (fun v3 v9 wr => ∃ k : Nat, v9 = .int .i64 (k : Int) ∧ k ≤ l0.length ∧ Aside0 (Own2 wr w.heap.size v3 ((l0.take k).foldl addR [])) ∧ Aside0 (∀ p ∈ (l0.take k).foldl addR [], -10000 ≤ p.2 ∧ p.2 ≤ 10000) ∧ Aside0 (Below w.heap.size w wr)) (fun v3 v9 wr => ((l0.length : Int) - intOf v9).toNat)
  case atStart => exact ⟨0, rfl, by omega, ⟨Kd.R_nil _ _ _ _ _⟩, ⟨by simp⟩, ⟨Below.refl _ _⟩⟩
  case round =>
    obtain ⟨k, rfl, hk, HO, HP, HB⟩ := hrel
    by_cases hlt : k < l0.length
    · obtain ⟨ad, rfl, hcell⟩ := Kd.at_int HR0.out (k : Int) (by omega) (by omega)
      rw [rd_at l0 k hlt] at hcell
      have hcell : wr.cell? (ad.add k) = some (.int .i64 l0[k]) := by
        have := (HB.out.cell (World.block_lt_of_cell? w _ hcell)).trans hcell
        simpa using this
      have HXk := Aside0.mk (HX.out l0[k] (List.getElem_mem hlt))
      have HTK : Aside0 ((l0.take (k + 1)).foldl addR [] = addR ((l0.take k).foldl addR []) l0[k]) := ⟨by rw [List.take_succ_eq_append_getElem hlt, List.foldl_append]; rfl⟩
      have HLL : Aside0 (((l0.take k).foldl addR []).length ≤ k) := ⟨by have := foldl_addR_length (l0.take k) []; rw [List.length_take] at this; simp at this; omega⟩
      obtain ⟨x, hxe⟩ : ∃ x, l0[k] = x := ⟨_, rfl⟩
      rw [hxe] at hcell HXk HTK
      clear hxe
      generalize (l0.take k).foldl addR [] = out at *
      rcases List.eq_nil_or_concat out with he | ⟨rs, p, he⟩
      · subst he
        obtain ⟨A2, c2, h2⟩ := Kd.R_slice HO.out
        simp only [List.length_nil] at h2
        subst h2
        go_wp2_with (at_builtin; refine app2 (w0 := w) w.heap.size rfl _ _ rfl (.slice A2 0 c2) [] x x rfl rfl HO.out HB.out HB.out.size (by simp) ?_; intro v1 w1 ho hb; have HO1 := Aside0.mk ho; have HB1 := Aside0.mk hb; clear ho hb)
        go_roundw
        case rel => exact ⟨k + 1, by go_num, by omega, ⟨by rw [HTK.out]; exact HO1.out⟩, ⟨by rw [HTK.out, addR_nil]; intro p hp; rw [List.mem_singleton.1 hp]; exact HXk.out⟩, HB1⟩
        case measure => simp [intOf]; omega
      · rw [List.concat_eq_append] at he
        subst he
        obtain ⟨g, cap, rfl, hg, hp0, hp1, hf1, hset⟩ := own2_last HO.out
        have HS := Aside0.mk hset
        have hpr := HP.out p (by simp)
        have hm : rs.length + 1 ≤ 3000 := by have := HLL.out; simp at this; omega
        have HG := Aside0.mk hg
        clear hset hg hp0
        obtain ⟨hpr1, hpr2⟩ := hpr
        by_cases hx : p.2 + 1 = x
        · have hx1 : (p.2 + 1 == x) = true := by simpa using hx
          have HXE := Aside0.mk hx
          clear hx
          go_wp2_with fail
          go_roundw
          case rel => exact ⟨k + 1, by go_num, by omega, ⟨by rw [HTK.out, addR_snoc, if_pos HXE.out]; exact HS.out x⟩, ⟨by
            rw [HTK.out, addR_snoc, if_pos HXE.out]
            intro q hq
            rcases List.mem_append.1 hq with h | h
            · exact HP.out q (List.mem_append_left _ h)
            · rw [List.mem_singleton.1 h]; exact HXk.out⟩, ⟨below_set HB.out HG.out⟩⟩
          case measure => simp [intOf]; omega
        · have hx1 : (p.2 + 1 == x) = false := by simpa using hx
          have HXE := Aside0.mk hx
          clear hx
          go_wp2_with (at_builtin; refine app2 (w0 := w) w.heap.size rfl _ _ rfl (.slice (some ⟨g, 0, none⟩) (rs.length + 1) cap) (rs ++ [p]) x x rfl rfl HO.out HB.out HB.out.size (by simp; omega) ?_; intro v1 w1 ho hb; have HO1 := Aside0.mk ho; have HB1 := Aside0.mk hb; clear ho hb)
          go_roundw
          case rel => exact ⟨k + 1, by go_num, by omega, ⟨by rw [HTK.out, addR_snoc, if_neg HXE.out]; exact HO1.out⟩, ⟨by
            rw [HTK.out, addR_snoc, if_neg HXE.out]
            intro q hq
            rcases List.mem_append.1 hq with h | h
            · exact HP.out q h
            · rw [List.mem_singleton.1 h]; exact HXk.out⟩, HB1⟩
          case measure => simp [intOf]; omega
    · obtain rfl : k = l0.length := by omega
      go_wp2_with fail
      go_ret
      refine ⟨_, rfl, ?_, HB.out⟩
      have := HO.out
      rw [List.take_length] at this
      exact this
end Go.Proofs.Ytpbdlkbiiglkdaa

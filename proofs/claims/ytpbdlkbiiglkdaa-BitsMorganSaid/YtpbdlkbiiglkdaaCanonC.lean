/- A region whose order is open comes to what one fixed order of its operations comes to (third part: the theorem). -/
import Derived.Test.YtpbdlkbiiglkdaaCanonB
set_option linter.unusedVariables false
set_option linter.unusedSimpArgs false
namespace Go.Proofs.Cab

/-! ### the fixed look at a region -/
def waitsF (ops : Array Oper) : Nat → Nat → Nat → Bool
  | 0, _, _ => false
  | f + 1, y, x => match ops[y]? with
    | some o => o.after.toList.any fun e => Region.binds .any e && (e.on == x || waitsF ops f e.on x)
    | none => false
def kindAt (ops : Array Oper) (i : Nat) : Nat := match ops[i]? with
  | some o => opKind o.op
  | none => 3
/-- Operation y, which may come up before x does, may change places with it: x stands before y in the fixed order. -/
def swapOk (fl : Nat → Bool) (ops : Array Oper) (x y : Nat) : Bool := match ops[x]?, ops[y]? with
  | some ox, some oy => ox.apart ops oy && (opKind ox.op == 0 || opKind oy.op == 0 || (opKind ox.op == 1 && opKind oy.op == 1) || (opKind ox.op == 1 && opKind oy.op == 2) || (opKind ox.op == 1 && fl y))
  | _, _ => false
def pairB (R : Nat → Nat → Bool) : List Nat → Bool
  | [] => true
  | x :: l => l.all (R x) && pairB R l
def waitsNot (ops : Array Oper) (x y : Nat) : Bool := match ops[x]? with
  | some o => o.after.toList.all fun e => !Region.binds .any e || e.on != y
  | none => false
/-- No later operation writes what an operation looks at. -/
def lateOk (ops : Array Oper) : List Nat → Bool
  | [] => true
  | i :: rest => (match ops[i]? with
    | some o => !needDyn o.op || (i :: rest).all fun k => match ops[k]? with
        | some ok => match ok.dst with
          | some d => !(o.looksAt ops).contains d
          | none => true
        | none => true
    | none => false) && lateOk ops rest
def canonB (fl : Nat → Bool) (P : Program) (ops : Array Oper) (ord : List Nat) : Bool :=
  Region.noSelect ops && (List.range ops.size).all (fun k => ord.contains k) && ord.all (fun k => decide (k < ops.size)) && pairB (fun x y => x != y) ord &&
  ops.all (fun o => (opKind o.op != 0 || opOk P o.op) && o.after.toList.all fun e => !Region.binds .any e || decide (e.on < ops.size)) &&
  ord.all (fun x => waitsNot ops x x) && pairB (fun x y => waitsNot ops x y) ord && pairB (fun x y => swapOk fl ops x y || waitsF ops ops.size y x) ord && lateOk ops ord
/-- Each reckoning has operands that it takes as they are. -/
def dynAll (ops : Array Oper) (a : Act) : Bool :=
  ops.toList.all fun o => !needDyn o.op || !Region.wanted o (yielded ops a.tmps) || opDyn a.eval o.op

theorem pairB_iff {R : Nat → Nat → Bool} : ∀ {l : List Nat}, pairB R l = true ↔ l.Pairwise (fun x y => R x y = true)
  | [] => by simp [pairB]
  | x :: l => by simp [pairB, List.pairwise_cons, pairB_iff (l := l)]

section
variable {P : Program} {ops : Array Oper} {Q : Exit → Act → World → Prop}

/-- At operation i the operands are such as a reckoning takes. -/
def dynAt (ops : Array Oper) (i : Nat) (a : Act) : Prop := ∀ o, ops[i]? = some o → Region.wanted o (yielded ops a.tmps) = true → opKind o.op = 0 → opDyn a.eval o.op = true
/-- The operations in a fixed order. -/
def wpC (fl : Nat → Bool) (P : Program) (ops : Array Oper) (Q : Exit → Act → World → Prop) : List Nat → Act → World → Prop
  | [], a, w => Q .normal a w
  | i :: rest, a, w => dynAt ops i a ∧ wpOp P ops Q i (fun a' w' => (fl i = true → Ext w w') ∧ wpC fl P ops Q rest a' w') a w
/-- The same without a word on the operands. -/
def wpF (fl : Nat → Bool) (P : Program) (ops : Array Oper) (Q : Exit → Act → World → Prop) : List Nat → Act → World → Prop
  | [], a, w => Q .normal a w
  | i :: rest, a, w => wpOp P ops Q i (fun a' w' => (fl i = true → Ext w w') ∧ wpF fl P ops Q rest a' w') a w

theorem opDyn_congr {ρ ρ' : Operand → Value} {op : Op} (h : ∀ x ∈ op.operands, ρ x = ρ' x) : opDyn ρ op = opDyn ρ' op := by
  cases op <;> simp only [opDyn]
  case nilCheck x => rw [h x (by simp [Op.operands])]
  case binOp b t x y yt => rw [h x (by simp [Op.operands]), h y (by simp [Op.operands])]
  case convert s d x => rw [h x (by simp [Op.operands])]
  case call c =>
    obtain ⟨callee, args, argTypes⟩ := c
    cases callee with
    | builtin b =>
      cases b <;> try rfl
      all_goals
        simp only [opDyn]
        split
        · rename_i x hx
          have : x ∈ args := by rw [← Array.mem_toList_iff, hx]; simp
          rw [h x (by simp [Op.operands, Call.operands, this])]
        · rfl
    | value f => rfl
    | invoke r m => rfl

theorem dynAt_put {i j : Nat} {oi oj : Oper} (hi : ops[i]? = some oi) (hj : ops[j]? = some oj) (hap : ∀ d, oi.dst = some d → d ∉ oj.looksAt ops) (a : Act) (v : Value) :
    dynAt ops j (a.put oi.dst v) ↔ dynAt ops j a := by
  have hw := wanted_put (ops := ops) oj a oi.dst v hap
  have he : opDyn (a.put oi.dst v).eval oj.op = opDyn a.eval oj.op := opDyn_congr fun x hx => Act.eval_put fun d hd hxd => hap d hd (by
    subst hxd
    exact List.mem_append_left _ (List.mem_filterMap.2 ⟨.tmp d, by simpa using hx, rfl⟩))
  constructor
  · intro h o ho hwo hk
    obtain rfl : oj = o := by rw [hj] at ho; exact Option.some.inj ho
    rw [← he]
    exact h oj ho (by rw [hw]; exact hwo) hk
  · intro h o ho hwo hk
    obtain rfl : oj = o := by rw [hj] at ho; exact Option.some.inj ho
    rw [he]
    exact h oj ho (by rw [← hw]; exact hwo) hk

/-- What a quiet operation does: it yields one value in every world that has grown (in every world, if it only reckons), or it isn't carried out. -/
theorem quiet_step {i : Nat} {o : Oper} {a : Act} {w : World} {K : Act → World → Prop} (hi : ops[i]? = some o) (hk : opKind o.op ≤ 1) (hok : opKind o.op = 0 → opOk P o.op = true)
    (hd : dynAt ops i a) (hnp : ∀ c a w, ¬ Q (.panic c) a w) (hno : ∀ a w, ¬ Q .outgrown a w) (h : wpOp P ops Q i K a w) :
    ∃ v, K (a.put o.dst v) w ∧ ((Region.wanted o (yielded ops a.tmps) = false ∧ v = undef) ∨
      (Region.wanted o (yielded ops a.tmps) = true ∧ (∀ w2, Ext w w2 → (execOp a.eval o).run P w2 = .ok (.value v) w2) ∧ (opKind o.op = 0 → ∀ w2, (execOp a.eval o).run P w2 = .ok (.value v) w2))) := by
  unfold wpOp at h
  simp only [hi] at h
  split at h
  · rename_i hw
    rcases h with h | ⟨_, a0, w0, hq⟩
    case inr => exact absurd hq (hno _ _)
    unfold Oper.wp at h
    have hval : ∀ n w', (execOp a.eval o).run P w = .ok n w' → ∃ v, n = .value v := by
      intro n w' hr
      obtain ⟨dst, op, type, pos, after, guard⟩ := o
      have key : ∀ (s : Sem Value), (s >>= fun v => (pure (.value v) : Sem Next)).run P w = .ok n w' → ∃ v, n = .value v := by
        intro s hs
        rw [Sem.run_bind] at hs
        cases hr : s.run P w with
        | halt x w'' => rw [hr] at hs; simp [Result.andThen] at hs
        | ok u w'' =>
          rw [hr] at hs
          simp only [Result.andThen, Sem.run_pure, Result.ok.injEq] at hs
          exact ⟨u, hs.1.symm⟩
      cases op <;> try (exfalso; revert hk; simp [opKind]; done)
      all_goals simp only [execOp] at hr
      case move x => simp only [Sem.run_pure, Result.ok.injEq] at hr; exact ⟨_, hr.1.symm⟩
      case assign x => simp only [Sem.run_pure, Result.ok.injEq] at hr; exact ⟨_, hr.1.symm⟩
      case pick c x y =>
        rw [Sem.run_bind] at hr
        cases hb : (asBool (a.eval c)).run P w with
        | halt x w'' => rw [hb] at hr; simp [Result.andThen] at hr
        | ok u w'' =>
          rw [hb] at hr
          simp only [Result.andThen] at hr
          split at hr <;> (simp only [Sem.run_pure, Result.ok.injEq] at hr; exact ⟨_, hr.1.symm⟩)
      case nilCheck x =>
        have hd' := hd _ hi hw rfl
        simp only [opDyn] at hd'
        split at hd'
        · rename_i p hp
          rw [hp] at hr
          cases p with
          | none => exact absurd hr (No.runtimePanic _ _ _ _)
          | some a => simp only [Sem.run_pure, Result.ok.injEq] at hr; exact ⟨_, hr.1.symm⟩
        · rename_i f p q hp
          rw [hp] at hr
          simp only [Sem.run_pure, Result.ok.injEq] at hr
          exact ⟨_, hr.1.symm⟩
        · cases hd'
      case call c =>
        obtain ⟨callee, args, argTypes⟩ := c
        cases callee with
        | builtin b =>
          cases b <;> try (exfalso; revert hk; simp [opKind]; done)
          all_goals
            simp only [resolve, Sem.run_bind, Sem.run_pure, Result.andThen_ok, invoke, builtin] at hr
            exact key _ (by rw [Sem.run_bind]; exact hr)
        | value f => simp [opKind] at hk
        | invoke r m => simp [opKind] at hk
      all_goals exact key _ hr
    cases hr : (execOp a.eval o).run P w with
    | halt x w' =>
      rw [hr] at h
      cases x <;> simp only [Oper.upon] at h
      exact absurd h (hnp _ _ _)
    | ok n w' =>
      obtain ⟨v, rfl⟩ := hval n w' hr
      rw [hr] at h
      simp only [Oper.upon] at h
      by_cases hk0 : opKind o.op = 0
      · have hp := PU.op (P := P) (ρ := a.eval) hk0 (hok hk0) (hd o hi hw hk0) w _ _ hr
        rw [hp.1] at h
        exact ⟨v, h, .inr ⟨hw, fun w2 _ => hp.2 w2, fun _ => hp.2⟩⟩
      · have hp := RO.op (P := P) (ρ := a.eval) (o := o) (by omega) w _ _ hr
        rw [hp.1] at h
        exact ⟨v, h, .inr ⟨hw, hp.2, fun e => absurd e hk0⟩⟩
  · rename_i hw
    exact ⟨undef, h, .inl ⟨by simpa using hw, rfl⟩⟩
end
end Go.Proofs.Cab

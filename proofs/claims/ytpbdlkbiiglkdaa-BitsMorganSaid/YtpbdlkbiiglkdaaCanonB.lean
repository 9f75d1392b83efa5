/- A region whose order is open comes to what one fixed order of its operations comes to (second part). -/
import Derived.Test.YtpbdlkbiiglkdaaCanonA
set_option linter.unusedVariables false
set_option linter.unusedSimpArgs false
namespace Go.Proofs.Cab

/-! ### operations by what they do: 0 reckons, 1 reads, 2 lays a new block, 3 whatever else -/
def opKind : Op → Nat
  | .move _ | .assign _ | .pick _ _ _ | .extract _ _ | .fieldAddr _ _ _ | .field _ _ _ | .indexAddr _ _ _ | .index _ _ _ | .slice _ _ _ _ _ | .nilCheck _ | .binOp _ _ _ _ _ | .unOp _ _ _
  | .convert _ _ _ | .build _ _ => 0
  | .call { callee := .builtin .len, .. } => 0
  | .call { callee := .builtin .cap, .. } => 0
  | .load _ _ => 1
  | .alloc _ | .box _ _ | .buildSlice _ _ _ => 2
  | _ => 3
def isInt (P : Program) (t : TypeId) : Bool := match P.underlying t with | some (.int _) => true | _ => false
def opOk (P : Program) : Op → Bool
  | .fieldAddr s _ n => match P.underlying s with
    | some (.struct fs) => match fs[n]? with
      | some f => match P.info? f.type with
        | some i => i.size != 0
        | none => false
      | none => false
    | _ => false
  | .convert s d _ => isInt P s && isInt P d
  | _ => true
/-- Whether an operation asks anything of its operands. -/
def needDyn : Op → Bool
  | .nilCheck _ | .binOp _ _ _ _ _ | .convert _ _ _ => true
  | .call { callee := .builtin .len, .. } => true
  | .call { callee := .builtin .cap, .. } => true
  | _ => false
def opDyn (ρ : Operand → Value) : Op → Bool
  | .nilCheck x => match ρ x with
    | .pointer _ => true
    | .func (.func _) _ _ => true
    | _ => false
  | .binOp _ _ x y _ => match ρ x, ρ y with
    | .int _ _, .int _ _ => true
    | .string _, .string _ => true
    | .bool _, .bool _ => true
    | _, _ => false
  | .convert _ _ x => match ρ x with
    | .int _ _ => true
    | _ => false
  | .call { callee := .builtin .len, args, .. } => match args.toList with
    | [x] => match ρ x with
      | .slice _ _ _ => true
      | .string _ => true
      | _ => false
    | _ => false
  | .call { callee := .builtin .cap, args, .. } => match args.toList with
    | [x] => match ρ x with
      | .slice _ _ _ => true
      | _ => false
    | _ => false
  | _ => true
section
variable {P : Program}
theorem PU.op {ρ : Operand → Value} {o : Oper} (hk : opKind o.op = 0) (hs : opOk P o.op = true) (hd : opDyn ρ o.op = true) : PU P (execOp ρ o) := by
  obtain ⟨dst, op, type, pos, after, guard⟩ := o
  cases op <;> simp only [opKind, reduceCtorEq] at hk <;> simp only [execOp]
  case move x => exact PU.pure_ _
  case assign x => exact PU.pure_ _
  case pick c x y =>
    refine PU.bind_ (PU.asBool _) fun b => ?_
    split <;> exact PU.pure_ _
  case build t ps => exact PU.bind_ (PU.build _ _) fun _ => PU.pure_ _
  case nilCheck x =>
    simp only [opDyn] at hd
    split at hd
    · rename_i p hp
      rw [hp]
      cases p with
      | none => exact (No.runtimePanic _).pu
      | some a => exact PU.pure_ _
    · rename_i f a b hp
      rw [hp]
      exact PU.pure_ _
    · cases hd
  case binOp op t x y yt =>
    simp only [opDyn] at hd
    split at hd
    · rename_i hx hy
      rw [hx, hy]
      exact PU.bind_ (PU.bind_ (PU.eqGuardInt _ _ _ _ _ _ _ _) fun _ => PU.binInt _ _ _ _ _ _) fun _ => PU.pure_ _
    · rename_i hx hy
      rw [hx, hy]
      exact PU.bind_ (PU.bind_ (PU.eqGuardStr _ _ _ _ _ _) fun _ => PU.binStr _ _ _ _) fun _ => PU.pure_ _
    · rename_i hx hy
      rw [hx, hy]
      exact PU.bind_ (PU.bind_ (PU.eqGuardBool _ _ _ _ _ _) fun _ => PU.binBool _ _ _ _) fun _ => PU.pure_ _
    · cases hd
  case unOp op t x => exact PU.bind_ (PU.unary _ _) fun _ => PU.pure_ _
  case convert s d x =>
    simp only [opDyn] at hd
    simp only [opOk, Bool.and_eq_true] at hs
    split at hd
    · rename_i hx
      rw [hx]
      have h1 : ∀ t, isInt P t = true → ∃ k, P.underlying t = some (.int k) := fun t ht => by
        unfold isInt at ht
        split at ht
        · rename_i k hk
          exact ⟨k, hk⟩
        · cases ht
      exact PU.bind_ (PU.convInt _ _ _ _ (h1 _ hs.1) (h1 _ hs.2)) fun _ => PU.pure_ _
    · cases hd
  case slice t x lo hi mx => exact PU.bind_ (PU.sliceAt _ _ _ _ _) fun _ => PU.pure_ _
  case fieldAddr s x n =>
    simp only [opOk] at hs
    split at hs
    · rename_i fs hfs
      split at hs
      · rename_i f hf
        split at hs
        · rename_i i hi
          exact PU.bind_ (PU.fieldAt hfs hf hi (by simpa using hs) _) fun _ => PU.pure_ _
        · cases hs
      · cases hs
    · cases hs
  case field t x n => exact PU.bind_ (PU.field _ _ _) fun _ => PU.pure_ _
  case indexAddr t x i => exact PU.bind_ (PU.indexAt _ _ _) fun _ => PU.pure_ _
  case index t x i => exact PU.bind_ (PU.index _ _ _) fun _ => PU.pure_ _
  case extract x n => exact PU.bind_ (PU.extract _ _) fun _ => PU.pure_ _
  case call c =>
    obtain ⟨callee, args, argTypes⟩ := c
    cases callee with
    | builtin b =>
      cases b <;> simp only [opKind, reduceCtorEq] at hk
      case len =>
        simp only [opDyn] at hd
        split at hd
        · rename_i x hx
          obtain rfl : args = #[x] := by rw [← Array.toArray_toList (xs := args), hx]
          have h : ∀ (v : Value) (w : World), (execOp ρ { dst := dst, op := .call { callee := .builtin .len, args := #[x], argTypes := argTypes }, type := type, pos := pos, after := after, guard := guard }).run P w =
              (Builtin.len_ argTypes type #[ρ x] >>= fun v => (pure (.value v) : Sem Next)).run P w := fun v w => by
            simp [execOp, resolve, invoke, builtin]
          refine PU.congr_ (h undef) (PU.bind_ ?_ fun _ => PU.pure_ _)
          split at hd
          · rename_i hv
            rw [hv]
            exact PU.lenSlice _ _ _ _ _
          · rename_i hv
            rw [hv]
            exact PU.lenString _ _ _
          · cases hd
        · cases hd
      case cap =>
        simp only [opDyn] at hd
        split at hd
        · rename_i x hx
          obtain rfl : args = #[x] := by rw [← Array.toArray_toList (xs := args), hx]
          have h : ∀ (v : Value) (w : World), (execOp ρ { dst := dst, op := .call { callee := .builtin .cap, args := #[x], argTypes := argTypes }, type := type, pos := pos, after := after, guard := guard }).run P w =
              (Builtin.cap_ argTypes type #[ρ x] >>= fun v => (pure (.value v) : Sem Next)).run P w := fun v w => by
            simp [execOp, resolve, invoke, builtin]
          refine PU.congr_ (h undef) (PU.bind_ ?_ fun _ => PU.pure_ _)
          split at hd
          · rename_i hv
            rw [hv]
            exact PU.capSlice _ _ _ _ _
          · cases hd
        · cases hd
    | value f => simp [opKind] at hk
    | invoke r m => simp [opKind] at hk
theorem RO.op {ρ : Operand → Value} {o : Oper} (hk : opKind o.op = 1) : RO P (execOp ρ o) := by
  obtain ⟨dst, op, type, pos, after, guard⟩ := o
  cases op <;> simp only [opKind, reduceCtorEq, Nat.reduceEqDiff] at hk <;> simp only [execOp]
  case load t x => exact RO.bind_ (RO.loadAt _ _) fun _ => RO.pure_ _
  case call c =>
    obtain ⟨callee, args, argTypes⟩ := c
    cases callee with
    | builtin b => cases b <;> simp [opKind] at hk
    | value f => simp [opKind] at hk
    | invoke r m => simp [opKind] at hk
/-- The heap may have grown. -/
def GR (P : Program) {α : Type} (s : Sem α) : Prop := ∀ w v w1, s.run P w = .ok v w1 → Ext w w1
theorem GR.of_pu {α : Type} {s : Sem α} (h : PU P s) : GR P s := fun w v w1 hr => by rw [(h w v w1 hr).1]; exact Ext.refl w
theorem Ext.trans {a b c : World} (h : Ext a b) (hs : a.heap.size ≤ b.heap.size) (k : Ext b c) : Ext a c := fun i hi => (k i (Nat.lt_of_lt_of_le hi hs)).trans (h i hi)
theorem GR.new (o : Obj) : ∀ w v w1, (Go.newObj o).run P w = .ok v w1 → Ext w w1 := by
  intro w v w1 h
  unfold Go.newObj at h
  simp only [Sem.run, Result.ok.injEq] at h
  rw [← h.2]
  intro k hk
  simp only [Array.getElem?_push]
  rw [if_neg (by omega)]
theorem GR.bind1 {α β : Type} {s : Sem α} {f : α → Sem β} (hs : PU P s) (hf : ∀ a, GR P (f a)) : GR P (s >>= f) := by
  intro w v w1 h
  rw [Sem.run_bind] at h
  cases hr : s.run P w with
  | halt x w' => rw [hr] at h; simp [Result.andThen] at h
  | ok a w' =>
    rw [hr] at h
    obtain ⟨rfl, h2⟩ := hs w a w' hr
    exact hf a _ v w1 h
theorem GR.bind2 {α β : Type} {s : Sem α} {f : α → Sem β} (hs : GR P s) (hf : ∀ a, PU P (f a)) : GR P (s >>= f) := by
  intro w v w1 h
  rw [Sem.run_bind] at h
  cases hr : s.run P w with
  | halt x w' => rw [hr] at h; simp [Result.andThen] at h
  | ok a w' =>
    rw [hr] at h
    have e := (hf a w' v w1 h).1
    rw [e]
    exact hs w a w' hr
theorem GR.newRow (e : TypeId) (cs : Array Value) : GR P (Go.newRow e cs) := GR.bind2 (GR.new _) fun _ => PU.pure_ _
theorem GR.op {ρ : Operand → Value} {o : Oper} (hk : opKind o.op = 2) : GR P (execOp ρ o) := by
  obtain ⟨dst, op, type, pos, after, guard⟩ := o
  cases op <;> simp only [opKind, reduceCtorEq, Nat.reduceEqDiff] at hk <;> simp only [execOp]
  case alloc t =>
    refine GR.bind2 ?_ fun _ => PU.pure_ _
    unfold Go.Instr.alloc
    refine GR.bind1 (PU.zeroValue t) fun z => ?_
    exact GR.bind2 (GR.newRow _ _) fun _ => PU.pure_ _
  case box t x => exact GR.bind2 (GR.bind2 (GR.newRow _ _) fun _ => PU.pure_ _) fun _ => PU.pure_ _
  case buildSlice t n ps =>
    refine GR.bind2 ?_ fun _ => PU.pure_ _
    unfold Go.Instr.buildSlice
    refine GR.bind1 (PU.underlying _) fun d => ?_
    split
    · refine GR.bind1 (PU.sizeOf _) fun sz => ?_
      have rest : ∀ (e : TypeId) (sz : Nat) (z : Array Value), GR P (do
          let some cells := Go.Instr.fill (fun i => some (i * sz, sz)) ((Array.range (n * sz)).map (z[· % z.size]!)) (ps.map fun (i, x) => (i, ρ x)).toList
            | Go.stuck "buildSlice: a part of the wrong size"
          pure (.slice (some (← Go.newRow e cells)) n n) : Sem Value) := fun e sz z => by
        split
        · exact GR.bind2 (GR.newRow _ _) fun _ => PU.pure_ _
        · exact GR.of_pu (PU.stuck_ _)
      dsimp only
      split
      · intro w v w1 h
        rw [Sem.run_bind] at h
        simp [Go.unsupported, Sem.run, Result.andThen] at h
      · split
        · exact GR.bind1 (PU.pure_ _) fun _ => rest _ _ _
        · exact GR.bind1 (PU.zeroValue _) fun _ => GR.bind1 (PU.pure_ _) fun _ => rest _ _ _
    · exact GR.of_pu (PU.stuck_ _)
  case call c =>
    obtain ⟨callee, args, argTypes⟩ := c
    cases callee with
    | builtin b => cases b <;> simp [opKind] at hk
    | value f => simp [opKind] at hk
    | invoke r m => simp [opKind] at hk
end
end Go.Proofs.Cab

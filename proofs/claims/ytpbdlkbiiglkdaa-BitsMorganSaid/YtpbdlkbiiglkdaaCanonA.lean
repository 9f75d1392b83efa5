/- A region whose order is open comes to what one fixed order of its operations comes to: reads and reckonings first. -/
import Derived.Orders
import Derived.WalkKit
import Derived.KernelRfl
set_option linter.unusedVariables false
set_option linter.unusedSimpArgs false
namespace Go.Proofs.Cab

/-- What answers, answers the same in every world, and leaves it. -/
def PU (P : Program) {α : Type} (s : Sem α) : Prop := ∀ w v w1, s.run P w = .ok v w1 → w1 = w ∧ ∀ w2, s.run P w2 = .ok v w2
/-- The heap has grown, no old block has turned. -/
def Ext (w w' : World) : Prop := ∀ k, k < w.heap.size → w'.heap[k]? = w.heap[k]?
/-- What answers, answers the same in every grown world, and leaves the world. -/
def RO (P : Program) {α : Type} (s : Sem α) : Prop := ∀ w v w1, s.run P w = .ok v w1 → w1 = w ∧ ∀ w2, Ext w w2 → s.run P w2 = .ok v w2

theorem Ext.refl (w : World) : Ext w w := fun _ _ => rfl
section
variable {P : Program} {α β : Type}
theorem PU.pure_ (a : α) : PU P (pure a : Sem α) := by
  intro w v w1 h
  simp only [Sem.run_pure, Result.ok.injEq] at h
  exact ⟨h.2.symm, fun w2 => by rw [Sem.run_pure, h.1]⟩
theorem PU.halt_ (x : Halt) : PU P (.halt x : Sem α) := by
  intro w v w1 h
  simp [Sem.run] at h
theorem PU.program_ (k : Program → Sem α) (h : PU P (k P)) : PU P (.program k) := h
theorem PU.bind_ {s : Sem α} {f : α → Sem β} (hs : PU P s) (hf : ∀ a, PU P (f a)) : PU P (s >>= f) := by
  intro w v w1 h
  rw [Sem.run_bind] at h
  cases hr : s.run P w with
  | halt x w' => rw [hr] at h; simp [Result.andThen] at h
  | ok a w' =>
    rw [hr] at h
    obtain ⟨rfl, h2⟩ := hs w a w' hr
    obtain ⟨e, h3⟩ := hf a _ v w1 h
    exact ⟨e, fun w2 => by rw [Sem.run_bind, h2 w2]; exact h3 w2⟩
theorem PU.ro {s : Sem α} (h : PU P s) : RO P s := fun w v w1 hr => ⟨(h w v w1 hr).1, fun w2 _ => (h w v w1 hr).2 w2⟩
theorem RO.bind_ {s : Sem α} {f : α → Sem β} (hs : RO P s) (hf : ∀ a, RO P (f a)) : RO P (s >>= f) := by
  intro w v w1 h
  rw [Sem.run_bind] at h
  cases hr : s.run P w with
  | halt x w' => rw [hr] at h; simp [Result.andThen] at h
  | ok a w' =>
    rw [hr] at h
    obtain ⟨rfl, h2⟩ := hs w a w' hr
    obtain ⟨e, h3⟩ := hf a _ v w1 h
    refine ⟨e, fun w2 hx => ?_⟩
    rw [Sem.run_bind, h2 w2 hx]
    exact h3 w2 hx
theorem RO.pure_ (a : α) : RO P (pure a : Sem α) := (PU.pure_ a).ro
/-- What never answers. -/
def No (P : Program) {α : Type} (s : Sem α) : Prop := ∀ w v w1, s.run P w ≠ .ok v w1
theorem No.pu {s : Sem α} (h : No P s) : PU P s := fun w v w1 hr => absurd hr (h w v w1)
theorem No.halt_ (x : Halt) : No P (.halt x : Sem α) := by intro w v w1 h; simp [Sem.run] at h
theorem No.bind_ {s : Sem α} {f : α → Sem β} (hf : ∀ a, No P (f a)) : No P (s >>= f) := by
  intro w v w1 h
  rw [Sem.run_bind] at h
  cases hr : s.run P w with
  | halt x w' => rw [hr] at h; simp [Result.andThen] at h
  | ok a w' => rw [hr] at h; exact hf a _ _ _ h
theorem No.runtimePanic (e : RuntimeError) : No P (Go.runtimePanic e : Sem α) := by
  unfold Go.runtimePanic
  refine No.bind_ fun p => ?_
  cases e <;> first | exact No.halt_ _ | (refine No.bind_ fun _ => ?_; first | exact No.halt_ _ | (refine No.bind_ fun _ => ?_; exact No.halt_ _))
theorem No.boundsPanic (k : IntKind) (x y : Int) (c : BoundsCode) : No P (Go.boundsPanic k x y c : Sem α) := by
  unfold Go.boundsPanic
  dsimp only
  split <;> exact No.bind_ fun _ => No.runtimePanic _
theorem PU.stuck_ (m : String) : PU P (Go.stuck m : Sem α) := PU.halt_ _
theorem PU.unsup_ (m : Unsupported) : PU P (Go.unsupported m : Sem α) := PU.halt_ _
theorem PU.underlying (t : TypeId) : PU P (Go.underlying t) := by
  unfold Go.underlying
  refine PU.bind_ (PU.program_ _ (PU.pure_ _)) fun p => ?_
  split
  · exact PU.pure_ _
  · exact PU.stuck_ _
theorem PU.typeInfo (t : TypeId) : PU P (Go.typeInfo t) := by
  unfold Go.typeInfo
  refine PU.bind_ (PU.program_ _ (PU.pure_ _)) fun p => ?_
  split
  · exact PU.pure_ _
  · exact PU.stuck_ _
theorem PU.sizeOf (t : TypeId) : PU P (Go.sizeOf t) := PU.bind_ (PU.typeInfo t) fun _ => PU.pure_ _
theorem PU.zeroValue (t : TypeId) : PU P (Go.zeroValue t) := by
  unfold Go.zeroValue
  refine PU.bind_ (PU.typeInfo t) fun p => ?_
  split
  · exact PU.pure_ _
  · exact PU.unsup_ _
theorem PU.asIntOf (v : Value) : PU P (Go.asIntOf v) := by
  unfold Go.asIntOf
  split
  · exact PU.pure_ _
  · exact PU.unsup_ _
  · exact PU.stuck_ _
theorem PU.sureAddr (v : Value) : PU P (Go.Instr.sureAddr v) := by
  unfold Go.Instr.sureAddr
  split
  · exact PU.pure_ _
  · exact PU.stuck_ _
theorem PU.isAgg (t : TypeId) : PU P (Go.isAgg t) := by
  unfold Go.isAgg
  refine PU.bind_ (PU.underlying t) fun d => ?_
  split <;> exact PU.pure_ _
theorem PU.part (t : TypeId) (cs : Array Value) (n : Nat) : PU P (Go.part t cs n) := by
  unfold Go.part
  refine PU.bind_ (PU.isAgg t) fun d => ?_
  split
  · exact PU.bind_ (PU.sizeOf t) fun _ => PU.pure_ _
  · split
    · exact PU.pure_ _
    · exact PU.stuck_ _
theorem PU.sliceBound (x : Value) (y : Nat) (c : BoundsCode) : PU P (Go.Instr.sliceBound x y c) := by
  unfold Go.Instr.sliceBound
  refine PU.bind_ (PU.asIntOf x) fun d => ?_
  dsimp only
  split
  · exact PU.pure_ _
  · exact (No.boundsPanic _ _ _ _).pu
theorem PU.sliceBounds (b : Bool) (n c : Nat) (lo hi mx : Option Value) : PU P (Go.Instr.sliceBounds b n c lo hi mx) := by
  unfold Go.Instr.sliceBounds
  have last : ∀ (h m : Nat), PU P (do
      let l ← match lo with
        | some v => Go.Instr.sliceBound v h (if mx.isSome then .slice3C else .sliceB)
        | none => pure 0
      pure (l, h, m) : Sem (Nat × Nat × Nat)) := fun h m => by
    cases lo with
    | none => exact PU.bind_ (PU.pure_ _) fun _ => PU.pure_ _
    | some v => exact PU.bind_ (PU.sliceBound _ _ _) fun _ => PU.pure_ _
  cases mx with
  | none =>
    refine PU.bind_ (PU.pure_ _) fun m => ?_
    cases hi with
    | none => exact PU.bind_ (PU.pure_ _) fun h => last h m
    | some v => exact PU.bind_ (PU.sliceBound _ _ _) fun h => last h m
  | some u =>
    refine PU.bind_ (PU.sliceBound _ _ _) fun m => ?_
    cases hi with
    | none => exact PU.bind_ (PU.stuck_ _) fun h => last h m
    | some v => exact PU.bind_ (PU.sliceBound _ _ _) fun h => last h m
theorem PU.slice (t : TypeId) (x : Value) (lo hi mx : Option Value) : PU P (Go.Instr.slice t x lo hi mx) := by
  unfold Go.Instr.slice Go.asAddr
  repeat' first
    | exact PU.pure_ _
    | exact PU.stuck_ _
    | exact PU.unsup_ _
    | exact PU.underlying _
    | exact PU.typeInfo _
    | exact PU.sizeOf _
    | exact PU.isAgg _
    | exact PU.part _ _ _
    | exact PU.asIntOf _
    | exact PU.sureAddr _
    | exact PU.sliceBound _ _ _
    | exact PU.sliceBounds _ _ _ _ _ _
    | exact (No.boundsPanic _ _ _ _).pu
    | exact (No.runtimePanic _).pu
    | exact PU.halt_ _
    | refine PU.bind_ ?_ (fun _ => ?_)
    | split
    | dsimp only
theorem PU.sliceAt (t : TypeId) (x : Value) (lo hi mx : Option Value) : PU P (Go.Instr.sliceAt t x lo hi mx) := by
  unfold Go.Instr.sliceAt
  repeat' first
    | exact PU.pure_ _
    | exact PU.stuck_ _
    | exact PU.unsup_ _
    | exact PU.underlying _
    | exact PU.typeInfo _
    | exact PU.sizeOf _
    | exact PU.isAgg _
    | exact PU.part _ _ _
    | exact PU.asIntOf _
    | exact PU.sureAddr _
    | exact PU.sliceBound _ _ _
    | exact PU.sliceBounds _ _ _ _ _ _
    | exact PU.slice _ _ _ _ _
    | exact (No.boundsPanic _ _ _ _).pu
    | exact (No.runtimePanic _).pu
    | exact PU.halt_ _
    | refine PU.bind_ ?_ (fun _ => ?_)
    | split
    | dsimp only
theorem PU.indexAt (t : TypeId) (x i : Value) : PU P (Go.Instr.indexAt t x i) := by
  unfold Go.Instr.indexAt
  repeat' first
    | exact PU.pure_ _
    | exact PU.stuck_ _
    | exact PU.unsup_ _
    | exact PU.underlying _
    | exact PU.typeInfo _
    | exact PU.sizeOf _
    | exact PU.isAgg _
    | exact PU.part _ _ _
    | exact PU.asIntOf _
    | exact PU.sureAddr _
    | exact PU.sliceBound _ _ _
    | exact PU.sliceBounds _ _ _ _ _ _
    | exact PU.slice _ _ _ _ _
    | exact (No.boundsPanic _ _ _ _).pu
    | exact (No.runtimePanic _).pu
    | exact PU.halt_ _
    | refine PU.bind_ ?_ (fun _ => ?_)
    | split
    | dsimp only
theorem PU.index (t : TypeId) (x i : Value) : PU P (Go.Instr.index t x i) := by
  unfold Go.Instr.index
  repeat' first
    | exact PU.pure_ _
    | exact PU.stuck_ _
    | exact PU.unsup_ _
    | exact PU.underlying _
    | exact PU.typeInfo _
    | exact PU.sizeOf _
    | exact PU.isAgg _
    | exact PU.part _ _ _
    | exact PU.asIntOf _
    | exact PU.sureAddr _
    | exact PU.sliceBound _ _ _
    | exact PU.sliceBounds _ _ _ _ _ _
    | exact PU.slice _ _ _ _ _
    | exact (No.boundsPanic _ _ _ _).pu
    | exact (No.runtimePanic _).pu
    | exact PU.halt_ _
    | refine PU.bind_ ?_ (fun _ => ?_)
    | split
    | dsimp only
theorem PU.field (t : TypeId) (x : Value) (n : Nat) : PU P (Go.Instr.field t x n) := by
  unfold Go.Instr.field Go.asAgg
  repeat' first
    | exact PU.pure_ _
    | exact PU.stuck_ _
    | exact PU.unsup_ _
    | exact PU.underlying _
    | exact PU.typeInfo _
    | exact PU.sizeOf _
    | exact PU.isAgg _
    | exact PU.part _ _ _
    | exact PU.asIntOf _
    | exact PU.sureAddr _
    | exact PU.sliceBound _ _ _
    | exact PU.sliceBounds _ _ _ _ _ _
    | exact PU.slice _ _ _ _ _
    | exact (No.boundsPanic _ _ _ _).pu
    | exact (No.runtimePanic _).pu
    | exact PU.halt_ _
    | refine PU.bind_ ?_ (fun _ => ?_)
    | split
    | dsimp only
theorem PU.extract (x : Value) (n : Nat) : PU P (Go.Instr.extract x n) := by
  unfold Go.Instr.extract
  repeat' first
    | exact PU.pure_ _
    | exact PU.stuck_ _
    | exact PU.unsup_ _
    | exact PU.underlying _
    | exact PU.typeInfo _
    | exact PU.sizeOf _
    | exact PU.isAgg _
    | exact PU.part _ _ _
    | exact PU.asIntOf _
    | exact PU.sureAddr _
    | exact PU.sliceBound _ _ _
    | exact PU.sliceBounds _ _ _ _ _ _
    | exact PU.slice _ _ _ _ _
    | exact (No.boundsPanic _ _ _ _).pu
    | exact (No.runtimePanic _).pu
    | exact PU.halt_ _
    | refine PU.bind_ ?_ (fun _ => ?_)
    | split
    | dsimp only
theorem PU.unary (o : UnOp) (x : Value) : PU P (Go.Op.unary o x) := by
  unfold Go.Op.unary Go.Op.intArith Go.Op.intBits
  repeat' first
    | exact PU.pure_ _
    | exact PU.stuck_ _
    | exact PU.unsup_ _
    | exact PU.underlying _
    | exact PU.typeInfo _
    | exact PU.sizeOf _
    | exact PU.isAgg _
    | exact PU.part _ _ _
    | exact PU.asIntOf _
    | exact PU.sureAddr _
    | exact PU.sliceBound _ _ _
    | exact PU.sliceBounds _ _ _ _ _ _
    | exact PU.slice _ _ _ _ _
    | exact (No.boundsPanic _ _ _ _).pu
    | exact (No.runtimePanic _).pu
    | exact PU.halt_ _
    | refine PU.bind_ ?_ (fun _ => ?_)
    | split
    | dsimp only
theorem PU.binInt (o : BinOp) (t : TypeId) (k k' : IntKind) (a b : Int) : PU P (Go.binOp o t (.int k a) (.int k' b)) := by
  by_cases hk : k = k'
  · subst hk
    cases o <;> simp only [Go.binOp, ne_eq, not_true_eq_false, if_false, Go.Op.intArith, Go.Op.intBits, Go.Op.intDiv, Go.Op.intCmp, Go.Op.shift]
    all_goals
      repeat' first
        | exact PU.pure_ _
        | exact PU.stuck_ _
        | exact PU.unsup_ _
        | exact PU.underlying _
        | exact PU.typeInfo _
        | exact PU.sizeOf _
        | exact PU.isAgg _
        | exact PU.part _ _ _
        | exact PU.asIntOf _
        | exact PU.sureAddr _
        | exact PU.sliceBound _ _ _
        | exact PU.sliceBounds _ _ _ _ _ _
        | exact PU.slice _ _ _ _ _
        | exact (No.boundsPanic _ _ _ _).pu
        | exact (No.runtimePanic _).pu
        | exact PU.halt_ _
        | refine PU.bind_ ?_ (fun _ => ?_)
        | split
        | dsimp only
  · cases o <;> simp only [Go.binOp, ne_eq, hk, not_false_eq_true, if_true, Go.Op.shift]
    all_goals
      repeat' first
        | exact PU.pure_ _
        | exact PU.stuck_ _
        | exact PU.unsup_ _
        | exact PU.underlying _
        | exact PU.typeInfo _
        | exact PU.sizeOf _
        | exact PU.isAgg _
        | exact PU.part _ _ _
        | exact PU.asIntOf _
        | exact PU.sureAddr _
        | exact PU.sliceBound _ _ _
        | exact PU.sliceBounds _ _ _ _ _ _
        | exact PU.slice _ _ _ _ _
        | exact (No.boundsPanic _ _ _ _).pu
        | exact (No.runtimePanic _).pu
        | exact PU.halt_ _
        | refine PU.bind_ ?_ (fun _ => ?_)
        | split
        | dsimp only
theorem PU.binStr (o : BinOp) (t : TypeId) (a b : ByteArray) : PU P (Go.binOp o t (.string a) (.string b)) := by
  cases o <;> simp only [Go.binOp, Go.Op.stringOp]
  all_goals
    repeat' first
      | exact PU.pure_ _
      | exact PU.stuck_ _
      | exact PU.unsup_ _
      | exact PU.underlying _
      | exact PU.typeInfo _
      | exact PU.sizeOf _
      | exact PU.isAgg _
      | exact PU.part _ _ _
      | exact PU.asIntOf _
      | exact PU.sureAddr _
      | exact PU.sliceBound _ _ _
      | exact PU.sliceBounds _ _ _ _ _ _
      | exact PU.slice _ _ _ _ _
      | exact (No.boundsPanic _ _ _ _).pu
      | exact (No.runtimePanic _).pu
      | exact PU.halt_ _
      | refine PU.bind_ ?_ (fun _ => ?_)
      | split
      | dsimp only
theorem PU.equalInBool (n : Nat) (t : TypeId) (a b : Bool) : PU P (Go.Op.equalIn (n + 1) t (.bool a) (.bool b)) := by
  simp only [Go.Op.equalIn]
  repeat' first
    | contradiction
    | exact PU.pure_ _
    | exact PU.stuck_ _
    | exact PU.unsup_ _
    | exact PU.underlying _
    | exact PU.typeInfo _
    | exact PU.sizeOf _
    | exact PU.isAgg _
    | exact PU.part _ _ _
    | exact PU.asIntOf _
    | exact PU.sureAddr _
    | exact PU.sliceBound _ _ _
    | exact PU.sliceBounds _ _ _ _ _ _
    | exact PU.slice _ _ _ _ _
    | exact (No.boundsPanic _ _ _ _).pu
    | exact (No.runtimePanic _).pu
    | exact PU.halt_ _
    | refine PU.bind_ ?_ (fun _ => ?_)
    | split
    | dsimp only
theorem PU.equalBool (t : TypeId) (a b : Bool) : PU P (Go.Op.equal t (.bool a) (.bool b)) := PU.equalInBool 9999 t a b
theorem PU.binBool (o : BinOp) (t : TypeId) (a b : Bool) : PU P (Go.binOp o t (.bool a) (.bool b)) := by
  cases o <;> simp only [Go.binOp]
  all_goals first
    | exact PU.stuck_ _
    | exact PU.bind_ (PU.equalBool _ _ _) fun _ => PU.pure_ _
theorem PU.eqGuardInt (o : BinOp) (t : TypeId) (x y : Operand) (k k' : IntKind) (a b : Int) : PU P (Go.eqGuard o t x y (.int k a) (.int k' b)) := by
  unfold Go.eqGuard
  repeat' first
    | exact PU.pure_ _
    | exact PU.stuck_ _
    | exact PU.unsup_ _
    | exact PU.underlying _
    | exact PU.typeInfo _
    | exact PU.sizeOf _
    | exact PU.isAgg _
    | exact PU.part _ _ _
    | exact PU.asIntOf _
    | exact PU.sureAddr _
    | exact PU.sliceBound _ _ _
    | exact PU.sliceBounds _ _ _ _ _ _
    | exact PU.slice _ _ _ _ _
    | exact (No.boundsPanic _ _ _ _).pu
    | exact (No.runtimePanic _).pu
    | exact PU.halt_ _
    | refine PU.bind_ ?_ (fun _ => ?_)
    | split
    | dsimp only
theorem PU.eqGuardStr (o : BinOp) (t : TypeId) (x y : Operand) (a b : ByteArray) : PU P (Go.eqGuard o t x y (.string a) (.string b)) := by
  unfold Go.eqGuard
  repeat' first
    | exact PU.pure_ _
    | exact PU.stuck_ _
    | exact PU.unsup_ _
    | exact PU.underlying _
    | exact PU.typeInfo _
    | exact PU.sizeOf _
    | exact PU.isAgg _
    | exact PU.part _ _ _
    | exact PU.asIntOf _
    | exact PU.sureAddr _
    | exact PU.sliceBound _ _ _
    | exact PU.sliceBounds _ _ _ _ _ _
    | exact PU.slice _ _ _ _ _
    | exact (No.boundsPanic _ _ _ _).pu
    | exact (No.runtimePanic _).pu
    | exact PU.halt_ _
    | refine PU.bind_ ?_ (fun _ => ?_)
    | split
    | dsimp only
theorem PU.eqGuardBool (o : BinOp) (t : TypeId) (x y : Operand) (a b : Bool) : PU P (Go.eqGuard o t x y (.bool a) (.bool b)) := by
  unfold Go.eqGuard
  repeat' first
    | exact PU.pure_ _
    | exact PU.stuck_ _
    | exact PU.unsup_ _
    | exact PU.underlying _
    | exact PU.typeInfo _
    | exact PU.sizeOf _
    | exact PU.isAgg _
    | exact PU.part _ _ _
    | exact PU.asIntOf _
    | exact PU.sureAddr _
    | exact PU.sliceBound _ _ _
    | exact PU.sliceBounds _ _ _ _ _ _
    | exact PU.slice _ _ _ _ _
    | exact (No.boundsPanic _ _ _ _).pu
    | exact (No.runtimePanic _).pu
    | exact PU.halt_ _
    | refine PU.bind_ ?_ (fun _ => ?_)
    | split
    | dsimp only
theorem PU.lenSlice (ts : Array TypeId) (t : TypeId) (A : Option Addr) (n c : Nat) : PU P (Go.Builtin.len_ ts t #[.slice A n c]) := by
  unfold Go.Builtin.len_
  repeat' first
    | exact PU.pure_ _
    | exact PU.stuck_ _
    | exact PU.unsup_ _
    | exact PU.underlying _
    | exact PU.typeInfo _
    | exact PU.sizeOf _
    | exact PU.isAgg _
    | exact PU.part _ _ _
    | exact PU.asIntOf _
    | exact PU.sureAddr _
    | exact PU.sliceBound _ _ _
    | exact PU.sliceBounds _ _ _ _ _ _
    | exact PU.slice _ _ _ _ _
    | exact (No.boundsPanic _ _ _ _).pu
    | exact (No.runtimePanic _).pu
    | exact PU.halt_ _
    | refine PU.bind_ ?_ (fun _ => ?_)
    | split
    | dsimp only
    | (exfalso; simp_all; done)
theorem PU.lenString (ts : Array TypeId) (t : TypeId) (x : ByteArray) : PU P (Go.Builtin.len_ ts t #[.string x]) := by
  unfold Go.Builtin.len_
  repeat' first
    | exact PU.pure_ _
    | exact PU.stuck_ _
    | exact PU.unsup_ _
    | exact PU.underlying _
    | exact PU.typeInfo _
    | exact PU.sizeOf _
    | exact PU.isAgg _
    | exact PU.part _ _ _
    | exact PU.asIntOf _
    | exact PU.sureAddr _
    | exact PU.sliceBound _ _ _
    | exact PU.sliceBounds _ _ _ _ _ _
    | exact PU.slice _ _ _ _ _
    | exact (No.boundsPanic _ _ _ _).pu
    | exact (No.runtimePanic _).pu
    | exact PU.halt_ _
    | refine PU.bind_ ?_ (fun _ => ?_)
    | split
    | dsimp only
    | (exfalso; simp_all; done)
theorem PU.capSlice (ts : Array TypeId) (t : TypeId) (A : Option Addr) (n c : Nat) : PU P (Go.Builtin.cap_ ts t #[.slice A n c]) := by
  unfold Go.Builtin.cap_
  repeat' first
    | exact PU.pure_ _
    | exact PU.stuck_ _
    | exact PU.unsup_ _
    | exact PU.underlying _
    | exact PU.typeInfo _
    | exact PU.sizeOf _
    | exact PU.isAgg _
    | exact PU.part _ _ _
    | exact PU.asIntOf _
    | exact PU.sureAddr _
    | exact PU.sliceBound _ _ _
    | exact PU.sliceBounds _ _ _ _ _ _
    | exact PU.slice _ _ _ _ _
    | exact (No.boundsPanic _ _ _ _).pu
    | exact (No.runtimePanic _).pu
    | exact PU.halt_ _
    | refine PU.bind_ ?_ (fun _ => ?_)
    | split
    | dsimp only
    | (exfalso; simp_all; done)
theorem PU.convInt (s d : TypeId) (k : IntKind) (n : Int) (hs : ∃ ks, P.underlying s = some (.int ks)) (hd : ∃ kd, P.underlying d = some (.int kd)) : PU P (Go.convert s d (.int k n)) := by
  obtain ⟨ks, hs⟩ := hs
  obtain ⟨kd, hd⟩ := hd
  have h : ∀ w, (Go.convert s d (.int k n)).run P w = .ok (.int kd (kd.wrap n)) w := fun w => by
    simp [Go.convert, run_underlying hs, run_underlying hd, Go.Conv.intToInt]
  intro w v w1 hr
  rw [h] at hr
  simp only [Result.ok.injEq] at hr
  exact ⟨hr.2.symm, fun w2 => by rw [h, hr.1]⟩
theorem PU.mapMl {γ : Type} {f : γ → Sem β} (hf : ∀ a, PU P (f a)) : ∀ l : List γ, PU P (l.mapM f)
  | [] => by rw [List.mapM_nil]; exact PU.pure_ _
  | a :: l => by rw [List.mapM_cons]; exact PU.bind_ (hf a) fun _ => PU.bind_ (PU.mapMl hf l) fun _ => PU.pure_ _
theorem PU.map_ {s : Sem α} (f : α → β) (h : PU P s) : PU P (f <$> s) := by
  rw [map_eq_pure_bind]
  exact PU.bind_ h fun _ => PU.pure_ _
theorem PU.mapMa {γ : Type} {f : γ → Sem β} (hf : ∀ a, PU P (f a)) (l : Array γ) : PU P (l.mapM f) := by
  rw [Array.mapM_eq_mapM_toList]
  exact PU.map_ _ (PU.mapMl hf _)
theorem PU.build (t : TypeId) (ps : Array (Nat × Value)) : PU P (Go.Instr.build t ps) := by
  unfold Go.Instr.build
  refine PU.bind_ (PU.zeroValue t) fun z => ?_
  dsimp only
  refine PU.bind_ (PU.underlying t) fun d => ?_
  split
  · refine PU.bind_ (PU.mapMa (fun f => PU.bind_ (PU.sizeOf _) fun _ => PU.pure_ _) _) fun pl => ?_
    split
    · exact PU.pure_ _
    · exact PU.stuck_ _
  · refine PU.bind_ (PU.sizeOf _) fun _ => ?_
    split
    · exact PU.pure_ _
    · exact PU.stuck_ _
  · exact PU.stuck_ _
theorem PU.fieldAt {s : TypeId} {n : Nat} {fs : Array Field} {f : Field} {i : TypeInfo} (hs : P.underlying s = some (.struct fs)) (hf : fs[n]? = some f) (hi : P.info? f.type = some i) (h0 : i.size ≠ 0) (x : Value) :
    PU P (Go.Instr.fieldAt s x n) := by
  have h : ∀ w, (Go.Instr.fieldAt s x n).run P w = ((Go.Instr.sureAddr x) >>= fun a => (pure (.pointer (some (a.add f.offset))) : Sem Value)).run P w := fun w => by
    simp [Go.Instr.fieldAt, run_underlying hs, hf, fieldPlace, Go.sizeOf, Go.typeInfo, hi, h0]
  have hp : PU P ((Go.Instr.sureAddr x) >>= fun a => (pure (.pointer (some (a.add f.offset))) : Sem Value)) := PU.bind_ (PU.sureAddr _) fun _ => PU.pure_ _
  intro w v w1 hr
  rw [h] at hr
  exact ⟨(hp w v w1 hr).1, fun w2 => by rw [h]; exact (hp w v w1 hr).2 w2⟩
theorem seen_none {w : World} {at_ : Addr} {u : TypeId} {k : Addr} {b : Bool} (h : w.heap[at_.block]? = none) : ∀ q, w.seen P at_ u k b ≠ .ok q := by
  intro q hq
  unfold World.seen at hq
  simp only [h, bind, Except.bind, pure, Except.pure, throw, throwThe, MonadExcept.throw, MonadExceptOf.throw] at hq
  repeat' (split at hq <;> try contradiction)
theorem RO.load (a : Addr) : RO P (Go.load a) := by
  intro w v w1 h
  unfold Go.load at h ⊢
  simp only [Sem.run] at h ⊢
  cases hc : w.cell? a with
  | some u =>
    rw [hc] at h
    simp only [Result.ok.injEq] at h
    refine ⟨h.2.symm, fun w2 hx => ?_⟩
    have : w2.cell? a = some u := by
      rw [← hc]
      unfold World.cell?
      rw [hx a.block (World.block_lt_of_cell? w a hc)]
    rw [this, h.1]
  | none =>
    rw [hc] at h
    simp only at h
    cases hf : w.farLoad P a (Mode.plain == .atomic) with
    | error e => rw [hf] at h; simp at h
    | ok r =>
      obtain ⟨u, l⟩ := r
      rw [hf] at h
      simp only [Result.ok.injEq] at h
      refine ⟨h.2.symm, fun w2 hx => ?_⟩
      unfold World.farLoad at hf
      cases hb : w.heap[a.block]? with
      | none => rw [hb] at hf; simp at hf
      | some o =>
        rw [hb] at hf
        have hlt : a.block < w.heap.size := (Array.getElem?_eq_some_iff.1 hb).1
        cases o with
        | view at_ ty =>
          simp only at hf
          have hseen : ∀ r, w.viewLoad P at_ ty a (Mode.plain == .atomic) = .ok r → w2.viewLoad P at_ ty a (Mode.plain == .atomic) = .ok r := by
            intro r hr
            cases hb2 : w.heap[at_.block]? with
            | none =>
              exfalso
              unfold World.viewLoad at hr
              cases hq : w.seen P at_ ty a (Mode.plain == .atomic) with
              | error e => simp [hq, bind, Except.bind] at hr
              | ok q => exact seen_none hb2 q hq
            | some o2 =>
              have hlt2 : at_.block < w.heap.size := (Array.getElem?_eq_some_iff.1 hb2).1
              unfold World.viewLoad World.seen at hr ⊢
              rw [hx _ hlt2]
              exact hr
          have hc2 : w2.cell? a = none := by
            unfold World.cell?
            rw [hx _ hlt, hb]
          rw [hc2]
          simp only
          unfold World.farLoad
          rw [hx _ hlt, hb]
          simp only
          cases hv : w.viewLoad P at_ ty a (Mode.plain == .atomic) with
          | error e => rw [hv] at hf; simp at hf
          | ok r =>
            rw [hv] at hf
            simp only [Except.ok.injEq] at hf
            rw [hseen r hv, hf]
            simp only [h.1]
        | _ => simp at hf
theorem RO.loadCellsFrom (a : Addr) : ∀ (n i : Nat) (acc : Array Value), RO P (Go.loadCellsFrom a i n acc)
  | 0, i, acc => RO.pure_ _
  | n + 1, i, acc => RO.bind_ (RO.load _) fun v => RO.loadCellsFrom a n (i + 1) _
theorem RO.loadVar (t : TypeId) (a : Addr) : RO P (Go.loadVar t a) := by
  unfold Go.loadVar
  refine RO.bind_ (PU.isAgg t).ro fun b => ?_
  split
  · exact RO.bind_ (PU.sizeOf t).ro fun n => RO.bind_ (RO.loadCellsFrom a n 0 #[]) fun _ => RO.pure_ _
  · exact RO.load a
theorem RO.loadAt (t : TypeId) (x : Value) : RO P (Go.Instr.loadAt t x) := RO.bind_ (PU.sureAddr x).ro fun _ => RO.loadVar t _
theorem PU.asBool (v : Value) : PU P (Go.asBool v) := by
  unfold Go.asBool
  split
  · exact PU.pure_ _
  · exact PU.stuck_ _
theorem PU.congr_ {s s' : Sem α} (h : ∀ w, s.run P w = s'.run P w) (hp : PU P s') : PU P s := by
  intro w v w1 hr
  rw [h] at hr
  exact ⟨(hp w v w1 hr).1, fun w2 => by rw [h]; exact (hp w v w1 hr).2 w2⟩
end
end Go.Proofs.Cab

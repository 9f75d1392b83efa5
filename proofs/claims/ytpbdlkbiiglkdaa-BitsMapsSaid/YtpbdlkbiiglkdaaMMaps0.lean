/- What the law's proof stands on: contracts and plain laws. -/
import Derived.Test.YtpbdlkbiiglkdaaRows
import Derived.Test.YtpbdlkbiiglkdaaWSized
import Derived.Test.YtpbdlkbiiglkdaaWWords
import Derived.WalkKit
import Derived.ProofKit
import Derived.OpenShut
import Derived.ShutString
import Derived.ChangeOld
import Derived.Below
import Derived.Orders
import Derived.KernelRfl
import Derived.OrdersHeld
import Derived.Test.YtpbdlkbiiglkdaaPAllx
import Derived.WalkLawsBesides
import Derived.WalkSpells

/- Arguments opened: slices of whole numbers, in whatever world they came; the row's own closed facts. -/
set_option linter.unusedVariables false
namespace Go.Proofs.Ytpbdlkbiiglkdaa
open Go.ChangeShapes Go.WideShapes Go.ChangeAt Go.RowKit Go.Proofs.YtpbdlkbiiglkdaaW.PrintWords

theorem own : ownKnob Try.prog.godebug = none := by kernel_rfl
theorem laidOut : laidOutB Try.prog = true := by kernel_rfl

/-- A slice of whole numbers that came in. -/
def Came (k : IntKind) (w : World) (v : Value) : Prop := ∃ (A : Option Addr) (c : Nat) (l : List Int), v = .slice A l.length c ∧ l.length ≤ c ∧ l.length ≤ maxLen ∧ Kd.C (Kd.int k) w A l.length l ∧ ∀ x ∈ l, (Lit.int k x).wf = true

theorem came_of_row {k : IntKind} {w : World} {a : Option Addr} {len cap : Nat} {zs : List Int} (h : (a = none ∧ len = 0 ∧ cap = 0 ∧ zs = []) ∨ ∃ x, a = some x ∧ len ≤ cap ∧ cap ≤ maxLen ∧ zs.length = cap ∧ (∀ i, i < zs.length → w.cell? (x.add i) = some (.int k (zs.getD i 0))) ∧ ∀ n ∈ zs, (Lit.int k n).wf = true) :
    Came k w (.slice a len cap) := by
  have hle : len ≤ cap := by
    rcases h with ⟨_, rfl, rfl, _⟩ | ⟨_, _, h, _⟩
    · exact Nat.le_refl _
    · exact h
  obtain ⟨l, rfl, hr, hm, hw⟩ := ReadsInt.ofRow h
  exact ⟨a, cap, l, rfl, hle, hm, Kd.C_of_reads (enc := Value.int k) (d := (0 : Int)) (h1 := fun _ => rfl) hr, hw⟩

section
variable {H : Type} {enc : TypeId × Value → H} {P : Program} {w : World} {base : Nat} {held : Bool}
theorem came_trod {t e : TypeId} {k : IntKind} {fuel : Nat} {cs : List Value} {x : DataW H × List MemPlace} (ht : P.underlying t = some (.slice e)) (he : P.underlying e = some (.int k)) (hc : P.cellsOf e = 1)
    (h : DataW.trod enc P w base (fun _ => true) held fuel t cs = some x) : ∃ v, cs = [v] ∧ Came k w v := by
  rcases open_ints ht he hc h with ⟨rfl, _⟩ | ⟨a, len, cap, zs, rfl, _, hl, hm, hz, _, hcell, hwz⟩
  · exact ⟨_, rfl, came_of_row (zs := []) (.inl ⟨rfl, rfl, rfl, rfl⟩)⟩
  · exact ⟨_, rfl, came_of_row (.inr ⟨a, rfl, hl, hm, by simpa using hz, hcell, hwz⟩)⟩
theorem came_arg {t e : TypeId} {k : IntKind} {b0 : Nat} {r : Reach} {v : Value} {d : DataW H} {ps : List MemPlace} (ht : P.underlying t = some (.slice e)) (he : P.underlying e = some (.int k)) (hc : P.cellsOf e = 1) (hv : Value.okWide P w r b0 t v)
    (h : DataW.Trod enc P w base (fun _ => true) held t v d ps) : Came k w v := by
  obtain ⟨a, len, cap, rfl⟩ := okWide_slice ht hv
  obtain ⟨fuel, hf⟩ := h
  obtain ⟨v, hv, hc⟩ := came_trod ht he hc hf
  simp [Value.cells] at hv
  rw [hv]; exact hc
theorem lt_trod {t : TypeId} {v : Value} {d : DataW H} {ps : List MemPlace} {spare : Nat → Bool} (h : DataW.Trod enc P w base spare held t v d ps) : ∀ x ∈ ps, x.block < w.heap.size := by
  obtain ⟨m, hm⟩ := h
  exact DataW.trod_lt m _ _ _ hm
end
end Go.Proofs.Ytpbdlkbiiglkdaa

/- A region whose order is open comes to what one fixed order of its operations comes to: reads and reckonings first. -/
set_option linter.unusedVariables false
set_option linter.unusedSimpArgs false
namespace Go.Proofs.Cab

/-- What answers, answers the same in every world, and leaves it. -/
def PU (P : Program) {α : Type} (s : Sem α) : Prop := ∀ w v w1, s.run P w = .ok v w1 → w1 = w ∧ ∀ w2, s.run P w2 = .ok v w2
/-- The heap has grown, no old block has turned. -/
def Ext (w w' : World) : Prop := ∀ k, k < w.heap.size → w'.heap[k]? = w.heap[k]?
/-- What answers, answers the same in every grown world, and leaves the world. -/
def RO (P : Program) {α : Type} (s : Sem α) : Prop := ∀ w v w1, s.run P w = .ok v w1 → w1 = w ∧ ∀ w2, Ext w w2 → s.run P w2 = .ok v w2

theorem Ext.refl (w : World) : Ext w w := fun _ _ => rfl
section
variable {P : Program} {α β : Type}
theorem PU.pure_ (a : α) : PU P (pure a : Sem α) := by
  intro w v w1 h
  simp only [Sem.run_pure, Result.ok.injEq] at h
  exact ⟨h.2.symm, fun w2 => by rw [Sem.run_pure, h.1]⟩
theorem PU.halt_ (x : Halt) : PU P (.halt x : Sem α) := by
  intro w v w1 h
  simp [Sem.run] at h
theorem PU.program_ (k : Program → Sem α) (h : PU P (k P)) : PU P (.program k) := h
theorem PU.bind_ {s : Sem α} {f : α → Sem β} (hs : PU P s) (hf : ∀ a, PU P (f a)) : PU P (s >>= f) := by
  intro w v w1 h
  rw [Sem.run_bind] at h
  cases hr : s.run P w with
  | halt x w' => rw [hr] at h; simp [Result.andThen] at h
  | ok a w' =>
    rw [hr] at h
    obtain ⟨rfl, h2⟩ := hs w a w' hr
    obtain ⟨e, h3⟩ := hf a _ v w1 h
    exact ⟨e, fun w2 => by rw [Sem.run_bind, h2 w2]; exact h3 w2⟩
theorem PU.ro {s : Sem α} (h : PU P s) : RO P s := fun w v w1 hr => ⟨(h w v w1 hr).1, fun w2 _ => (h w v w1 hr).2 w2⟩
theorem RO.bind_ {s : Sem α} {f : α → Sem β} (hs : RO P s) (hf : ∀ a, RO P (f a)) : RO P (s >>= f) := by
  intro w v w1 h
  rw [Sem.run_bind] at h
  cases hr : s.run P w with
  | halt x w' => rw [hr] at h; simp [Result.andThen] at h
  | ok a w' =>
    rw [hr] at h
    obtain ⟨rfl, h2⟩ := hs w a w' hr
    obtain ⟨e, h3⟩ := hf a _ v w1 h
    refine ⟨e, fun w2 hx => ?_⟩
    rw [Sem.run_bind, h2 w2 hx]
    exact h3 w2 hx
theorem RO.pure_ (a : α) : RO P (pure a : Sem α) := (PU.pure_ a).ro
/-- What never answers. -/
def No (P : Program) {α : Type} (s : Sem α) : Prop := ∀ w v w1, s.run P w ≠ .ok v w1
theorem No.pu {s : Sem α} (h : No P s) : PU P s := fun w v w1 hr => absurd hr (h w v w1)
theorem No.halt_ (x : Halt) : No P (.halt x : Sem α) := by intro w v w1 h; simp [Sem.run] at h
theorem No.bind_ {s : Sem α} {f : α → Sem β} (hf : ∀ a, No P (f a)) : No P (s >>= f) := by
  intro w v w1 h
  rw [Sem.run_bind] at h
  cases hr : s.run P w with
  | halt x w' => rw [hr] at h; simp [Result.andThen] at h
  | ok a w' => rw [hr] at h; exact hf a _ _ _ h
theorem No.runtimePanic (e : RuntimeError) : No P (Go.runtimePanic e : Sem α) := by
  unfold Go.runtimePanic
  refine No.bind_ fun p => ?_
  cases e <;> first | exact No.halt_ _ | (refine No.bind_ fun _ => ?_; first | exact No.halt_ _ | (refine No.bind_ fun _ => ?_; exact No.halt_ _))
theorem No.boundsPanic (k : IntKind) (x y : Int) (c : BoundsCode) : No P (Go.boundsPanic k x y c : Sem α) := by
  unfold Go.boundsPanic
  dsimp only
  split <;> exact No.bind_ fun _ => No.runtimePanic _
theorem PU.stuck_ (m : String) : PU P (Go.stuck m : Sem α) := PU.halt_ _
theorem PU.unsup_ (m : Unsupported) : PU P (Go.unsupported m : Sem α) := PU.halt_ _
theorem PU.underlying (t : TypeId) : PU P (Go.underlying t) := by
  unfold Go.underlying
  refine PU.bind_ (PU.program_ _ (PU.pure_ _)) fun p => ?_
  split
  · exact PU.pure_ _
  · exact PU.stuck_ _
theorem PU.typeInfo (t : TypeId) : PU P (Go.typeInfo t) := by
  unfold Go.typeInfo
  refine PU.bind_ (PU.program_ _ (PU.pure_ _)) fun p => ?_
  split
  · exact PU.pure_ _
  · exact PU.stuck_ _
theorem PU.sizeOf (t : TypeId) : PU P (Go.sizeOf t) := PU.bind_ (PU.typeInfo t) fun _ => PU.pure_ _
theorem PU.zeroValue (t : TypeId) : PU P (Go.zeroValue t) := by
  unfold Go.zeroValue
  refine PU.bind_ (PU.typeInfo t) fun p => ?_
  split
  · exact PU.pure_ _
  · exact PU.unsup_ _
theorem PU.asIntOf (v : Value) : PU P (Go.asIntOf v) := by
  unfold Go.asIntOf
  split
  · exact PU.pure_ _
  · exact PU.unsup_ _
  · exact PU.stuck_ _
theorem PU.sureAddr (v : Value) : PU P (Go.Instr.sureAddr v) := by
  unfold Go.Instr.sureAddr
  split
  · exact PU.pure_ _
  · exact PU.stuck_ _
theorem PU.isAgg (t : TypeId) : PU P (Go.isAgg t) := by
  unfold Go.isAgg
  refine PU.bind_ (PU.underlying t) fun d => ?_
  split <;> exact PU.pure_ _
theorem PU.part (t : TypeId) (cs : Array Value) (n : Nat) : PU P (Go.part t cs n) := by
  unfold Go.part
  refine PU.bind_ (PU.isAgg t) fun d => ?_
  split
  · exact PU.bind_ (PU.sizeOf t) fun _ => PU.pure_ _
  · split
    · exact PU.pure_ _
    · exact PU.stuck_ _
theorem PU.sliceBound (x : Value) (y : Nat) (c : BoundsCode) : PU P (Go.Instr.sliceBound x y c) := by
  unfold Go.Instr.sliceBound
  refine PU.bind_ (PU.asIntOf x) fun d => ?_
  dsimp only
  split
  · exact PU.pure_ _
  · exact (No.boundsPanic _ _ _ _).pu
theorem PU.sliceBounds (b : Bool) (n c : Nat) (lo hi mx : Option Value) : PU P (Go.Instr.sliceBounds b n c lo hi mx) := by
  unfold Go.Instr.sliceBounds
  have last : ∀ (h m : Nat), PU P (do
      let l ← match lo with
        | some v => Go.Instr.sliceBound v h (if mx.isSome then .slice3C else .sliceB)
        | none => pure 0
      pure (l, h, m) : Sem (Nat × Nat × Nat)) := fun h m => by
    cases lo with
    | none => exact PU.bind_ (PU.pure_ _) fun _ => PU.pure_ _
    | some v => exact PU.bind_ (PU.sliceBound _ _ _) fun _ => PU.pure_ _
  cases mx with
  | none =>
    refine PU.bind_ (PU.pure_ _) fun m => ?_
    cases hi with
    | none => exact PU.bind_ (PU.pure_ _) fun h => last h m
    | some v => exact PU.bind_ (PU.sliceBound _ _ _) fun h => last h m
  | some u =>
    refine PU.bind_ (PU.sliceBound _ _ _) fun m => ?_
    cases hi with
    | none => exact PU.bind_ (PU.stuck_ _) fun h => last h m
    | some v => exact PU.bind_ (PU.sliceBound _ _ _) fun h => last h m
theorem PU.slice (t : TypeId) (x : Value) (lo hi mx : Option Value) : PU P (Go.Instr.slice t x lo hi mx) := by
  unfold Go.Instr.slice Go.asAddr
  repeat' first
    | exact PU.pure_ _
    | exact PU.stuck_ _
    | exact PU.unsup_ _
    | exact PU.underlying _
    | exact PU.typeInfo _
    | exact PU.sizeOf _
    | exact PU.isAgg _
    | exact PU.part _ _ _
    | exact PU.asIntOf _
    | exact PU.sureAddr _
    | exact PU.sliceBound _ _ _
    | exact PU.sliceBounds _ _ _ _ _ _
    | exact (No.boundsPanic _ _ _ _).pu
    | exact (No.runtimePanic _).pu
    | exact PU.halt_ _
    | refine PU.bind_ ?_ (fun _ => ?_)
    | split
    | dsimp only
theorem PU.sliceAt (t : TypeId) (x : Value) (lo hi mx : Option Value) : PU P (Go.Instr.sliceAt t x lo hi mx) := by
  unfold Go.Instr.sliceAt
  repeat' first
    | exact PU.pure_ _
    | exact PU.stuck_ _
    | exact PU.unsup_ _
    | exact PU.underlying _
    | exact PU.typeInfo _
    | exact PU.sizeOf _
    | exact PU.isAgg _
    | exact PU.part _ _ _
    | exact PU.asIntOf _
    | exact PU.sureAddr _
    | exact PU.sliceBound _ _ _
    | exact PU.sliceBounds _ _ _ _ _ _
    | exact PU.slice _ _ _ _ _
    | exact (No.boundsPanic _ _ _ _).pu
    | exact (No.runtimePanic _).pu
    | exact PU.halt_ _
    | refine PU.bind_ ?_ (fun _ => ?_)
    | split
    | dsimp only
theorem PU.indexAt (t : TypeId) (x i : Value) : PU P (Go.Instr.indexAt t x i) := by
  unfold Go.Instr.indexAt
  repeat' first
    | exact PU.pure_ _
    | exact PU.stuck_ _
    | exact PU.unsup_ _
    | exact PU.underlying _
    | exact PU.typeInfo _
    | exact PU.sizeOf _
    | exact PU.isAgg _
    | exact PU.part _ _ _
    | exact PU.asIntOf _
    | exact PU.sureAddr _
    | exact PU.sliceBound _ _ _
    | exact PU.sliceBounds _ _ _ _ _ _
    | exact PU.slice _ _ _ _ _
    | exact (No.boundsPanic _ _ _ _).pu
    | exact (No.runtimePanic _).pu
    | exact PU.halt_ _
    | refine PU.bind_ ?_ (fun _ => ?_)
    | split
    | dsimp only
theorem PU.index (t : TypeId) (x i : Value) : PU P (Go.Instr.index t x i) := by
  unfold Go.Instr.index
  repeat' first
    | exact PU.pure_ _
    | exact PU.stuck_ _
    | exact PU.unsup_ _
    | exact PU.underlying _
    | exact PU.typeInfo _
    | exact PU.sizeOf _
    | exact PU.isAgg _
    | exact PU.part _ _ _
    | exact PU.asIntOf _
    | exact PU.sureAddr _
    | exact PU.sliceBound _ _ _
    | exact PU.sliceBounds _ _ _ _ _ _
    | exact PU.slice _ _ _ _ _
    | exact (No.boundsPanic _ _ _ _).pu
    | exact (No.runtimePanic _).pu
    | exact PU.halt_ _
    | refine PU.bind_ ?_ (fun _ => ?_)
    | split
    | dsimp only
theorem PU.field (t : TypeId) (x : Value) (n : Nat) : PU P (Go.Instr.field t x n) := by
  unfold Go.Instr.field Go.asAgg
  repeat' first
    | exact PU.pure_ _
    | exact PU.stuck_ _
    | exact PU.unsup_ _
    | exact PU.underlying _
    | exact PU.typeInfo _
    | exact PU.sizeOf _
    | exact PU.isAgg _
    | exact PU.part _ _ _
    | exact PU.asIntOf _
    | exact PU.sureAddr _
    | exact PU.sliceBound _ _ _
    | exact PU.sliceBounds _ _ _ _ _ _
    | exact PU.slice _ _ _ _ _
    | exact (No.boundsPanic _ _ _ _).pu
    | exact (No.runtimePanic _).pu
    | exact PU.halt_ _
    | refine PU.bind_ ?_ (fun _ => ?_)
    | split
    | dsimp only
theorem PU.extract (x : Value) (n : Nat) : PU P (Go.Instr.extract x n) := by
  unfold Go.Instr.extract
  repeat' first
    | exact PU.pure_ _
    | exact PU.stuck_ _
    | exact PU.unsup_ _
    | exact PU.underlying _
    | exact PU.typeInfo _
    | exact PU.sizeOf _
    | exact PU.isAgg _
    | exact PU.part _ _ _
    | exact PU.asIntOf _
    | exact PU.sureAddr _
    | exact PU.sliceBound _ _ _
    | exact PU.sliceBounds _ _ _ _ _ _
    | exact PU.slice _ _ _ _ _
    | exact (No.boundsPanic _ _ _ _).pu
    | exact (No.runtimePanic _).pu
    | exact PU.halt_ _
    | refine PU.bind_ ?_ (fun _ => ?_)
    | split
    | dsimp only
theorem PU.unary (o : UnOp) (x : Value) : PU P (Go.Op.unary o x) := by
  unfold Go.Op.unary Go.Op.intArith Go.Op.intBits
  repeat' first
    | exact PU.pure_ _
    | exact PU.stuck_ _
    | exact PU.unsup_ _
    | exact PU.underlying _
    | exact PU.typeInfo _
    | exact PU.sizeOf _
    | exact PU.isAgg _
    | exact PU.part _ _ _
    | exact PU.asIntOf _
    | exact PU.sureAddr _
    | exact PU.sliceBound _ _ _
    | exact PU.sliceBounds _ _ _ _ _ _
    | exact PU.slice _ _ _ _ _
    | exact (No.boundsPanic _ _ _ _).pu
    | exact (No.runtimePanic _).pu
    | exact PU.halt_ _
    | refine PU.bind_ ?_ (fun _ => ?_)
    | split
    | dsimp only
theorem PU.binInt (o : BinOp) (t : TypeId) (k k' : IntKind) (a b : Int) : PU P (Go.binOp o t (.int k a) (.int k' b)) := by
  by_cases hk : k = k'
  · subst hk
    cases o <;> simp only [Go.binOp, ne_eq, not_true_eq_false, if_false, Go.Op.intArith, Go.Op.intBits, Go.Op.intDiv, Go.Op.intCmp, Go.Op.shift]
    all_goals
      repeat' first
        | exact PU.pure_ _
        | exact PU.stuck_ _
        | exact PU.unsup_ _
        | exact PU.underlying _
        | exact PU.typeInfo _
        | exact PU.sizeOf _
        | exact PU.isAgg _
        | exact PU.part _ _ _
        | exact PU.asIntOf _
        | exact PU.sureAddr _
        | exact PU.sliceBound _ _ _
        | exact PU.sliceBounds _ _ _ _ _ _
        | exact PU.slice _ _ _ _ _
        | exact (No.boundsPanic _ _ _ _).pu
        | exact (No.runtimePanic _).pu
        | exact PU.halt_ _
        | refine PU.bind_ ?_ (fun _ => ?_)
        | split
        | dsimp only
  · cases o <;> simp only [Go.binOp, ne_eq, hk, not_false_eq_true, if_true, Go.Op.shift]
    all_goals
      repeat' first
        | exact PU.pure_ _
        | exact PU.stuck_ _
        | exact PU.unsup_ _
        | exact PU.underlying _
        | exact PU.typeInfo _
        | exact PU.sizeOf _
        | exact PU.isAgg _
        | exact PU.part _ _ _
        | exact PU.asIntOf _
        | exact PU.sureAddr _
        | exact PU.sliceBound _ _ _
        | exact PU.sliceBounds _ _ _ _ _ _
        | exact PU.slice _ _ _ _ _
        | exact (No.boundsPanic _ _ _ _).pu
        | exact (No.runtimePanic _).pu
        | exact PU.halt_ _
        | refine PU.bind_ ?_ (fun _ => ?_)
        | split
        | dsimp only
theorem PU.binStr (o : BinOp) (t : TypeId) (a b : ByteArray) : PU P (Go.binOp o t (.string a) (.string b)) := by
  cases o <;> simp only [Go.binOp, Go.Op.stringOp]
  all_goals
    repeat' first
      | exact PU.pure_ _
      | exact PU.stuck_ _
      | exact PU.unsup_ _
      | exact PU.underlying _
      | exact PU.typeInfo _
      | exact PU.sizeOf _
      | exact PU.isAgg _
      | exact PU.part _ _ _
      | exact PU.asIntOf _
      | exact PU.sureAddr _
      | exact PU.sliceBound _ _ _
      | exact PU.sliceBounds _ _ _ _ _ _
      | exact PU.slice _ _ _ _ _
      | exact (No.boundsPanic _ _ _ _).pu
      | exact (No.runtimePanic _).pu
      | exact PU.halt_ _
      | refine PU.bind_ ?_ (fun _ => ?_)
      | split
      | dsimp only
theorem PU.equalInBool (n : Nat) (t : TypeId) (a b : Bool) : PU P (Go.Op.equalIn (n + 1) t (.bool a) (.bool b)) := by
  simp only [Go.Op.equalIn]
  repeat' first
    | contradiction
    | exact PU.pure_ _
    | exact PU.stuck_ _
    | exact PU.unsup_ _
    | exact PU.underlying _
    | exact PU.typeInfo _
    | exact PU.sizeOf _
    | exact PU.isAgg _
    | exact PU.part _ _ _
    | exact PU.asIntOf _
    | exact PU.sureAddr _
    | exact PU.sliceBound _ _ _
    | exact PU.sliceBounds _ _ _ _ _ _
    | exact PU.slice _ _ _ _ _
    | exact (No.boundsPanic _ _ _ _).pu
    | exact (No.runtimePanic _).pu
    | exact PU.halt_ _
    | refine PU.bind_ ?_ (fun _ => ?_)
    | split
    | dsimp only
theorem PU.equalBool (t : TypeId) (a b : Bool) : PU P (Go.Op.equal t (.bool a) (.bool b)) := PU.equalInBool 9999 t a b
theorem PU.binBool (o : BinOp) (t : TypeId) (a b : Bool) : PU P (Go.binOp o t (.bool a) (.bool b)) := by
  cases o <;> simp only [Go.binOp]
  all_goals first
    | exact PU.stuck_ _
    | exact PU.bind_ (PU.equalBool _ _ _) fun _ => PU.pure_ _
theorem PU.eqGuardInt (o : BinOp) (t : TypeId) (x y : Operand) (k k' : IntKind) (a b : Int) : PU P (Go.eqGuard o t x y (.int k a) (.int k' b)) := by
  unfold Go.eqGuard
  repeat' first
    | exact PU.pure_ _
    | exact PU.stuck_ _
    | exact PU.unsup_ _
    | exact PU.underlying _
    | exact PU.typeInfo _
    | exact PU.sizeOf _
    | exact PU.isAgg _
    | exact PU.part _ _ _
    | exact PU.asIntOf _
    | exact PU.sureAddr _
    | exact PU.sliceBound _ _ _
    | exact PU.sliceBounds _ _ _ _ _ _
    | exact PU.slice _ _ _ _ _
    | exact (No.boundsPanic _ _ _ _).pu
    | exact (No.runtimePanic _).pu
    | exact PU.halt_ _
    | refine PU.bind_ ?_ (fun _ => ?_)
    | split
    | dsimp only
theorem PU.eqGuardStr (o : BinOp) (t : TypeId) (x y : Operand) (a b : ByteArray) : PU P (Go.eqGuard o t x y (.string a) (.string b)) := by
  unfold Go.eqGuard
  repeat' first
    | exact PU.pure_ _
    | exact PU.stuck_ _
    | exact PU.unsup_ _
    | exact PU.underlying _
    | exact PU.typeInfo _
    | exact PU.sizeOf _
    | exact PU.isAgg _
    | exact PU.part _ _ _
    | exact PU.asIntOf _
    | exact PU.sureAddr _
    | exact PU.sliceBound _ _ _
    | exact PU.sliceBounds _ _ _ _ _ _
    | exact PU.slice _ _ _ _ _
    | exact (No.boundsPanic _ _ _ _).pu
    | exact (No.runtimePanic _).pu
    | exact PU.halt_ _
    | refine PU.bind_ ?_ (fun _ => ?_)
    | split
    | dsimp only
theorem PU.eqGuardBool (o : BinOp) (t : TypeId) (x y : Operand) (a b : Bool) : PU P (Go.eqGuard o t x y (.bool a) (.bool b)) := by
  unfold Go.eqGuard
  repeat' first
    | exact PU.pure_ _
    | exact PU.stuck_ _
    | exact PU.unsup_ _
    | exact PU.underlying _
    | exact PU.typeInfo _
    | exact PU.sizeOf _
    | exact PU.isAgg _
    | exact PU.part _ _ _
    | exact PU.asIntOf _
    | exact PU.sureAddr _
    | exact PU.sliceBound _ _ _
    | exact PU.sliceBounds _ _ _ _ _ _
    | exact PU.slice _ _ _ _ _
    | exact (No.boundsPanic _ _ _ _).pu
    | exact (No.runtimePanic _).pu
    | exact PU.halt_ _
    | refine PU.bind_ ?_ (fun _ => ?_)
    | split
    | dsimp only
theorem PU.lenSlice (ts : Array TypeId) (t : TypeId) (A : Option Addr) (n c : Nat) : PU P (Go.Builtin.len_ ts t #[.slice A n c]) := by
  unfold Go.Builtin.len_
  repeat' first
    | exact PU.pure_ _
    | exact PU.stuck_ _
    | exact PU.unsup_ _
    | exact PU.underlying _
    | exact PU.typeInfo _
    | exact PU.sizeOf _
    | exact PU.isAgg _
    | exact PU.part _ _ _
    | exact PU.asIntOf _
    | exact PU.sureAddr _
    | exact PU.sliceBound _ _ _
    | exact PU.sliceBounds _ _ _ _ _ _
    | exact PU.slice _ _ _ _ _
    | exact (No.boundsPanic _ _ _ _).pu
    | exact (No.runtimePanic _).pu
    | exact PU.halt_ _
    | refine PU.bind_ ?_ (fun _ => ?_)
    | split
    | dsimp only
    | (exfalso; simp_all; done)
theorem PU.lenString (ts : Array TypeId) (t : TypeId) (x : ByteArray) : PU P (Go.Builtin.len_ ts t #[.string x]) := by
  unfold Go.Builtin.len_
  repeat' first
    | exact PU.pure_ _
    | exact PU.stuck_ _
    | exact PU.unsup_ _
    | exact PU.underlying _
    | exact PU.typeInfo _
    | exact PU.sizeOf _
    | exact PU.isAgg _
    | exact PU.part _ _ _
    | exact PU.asIntOf _
    | exact PU.sureAddr _
    | exact PU.sliceBound _ _ _
    | exact PU.sliceBounds _ _ _ _ _ _
    | exact PU.slice _ _ _ _ _
    | exact (No.boundsPanic _ _ _ _).pu
    | exact (No.runtimePanic _).pu
    | exact PU.halt_ _
    | refine PU.bind_ ?_ (fun _ => ?_)
    | split
    | dsimp only
    | (exfalso; simp_all; done)
theorem PU.capSlice (ts : Array TypeId) (t : TypeId) (A : Option Addr) (n c : Nat) : PU P (Go.Builtin.cap_ ts t #[.slice A n c]) := by
  unfold Go.Builtin.cap_
  repeat' first
    | exact PU.pure_ _
    | exact PU.stuck_ _
    | exact PU.unsup_ _
    | exact PU.underlying _
    | exact PU.typeInfo _
    | exact PU.sizeOf _
    | exact PU.isAgg _
    | exact PU.part _ _ _
    | exact PU.asIntOf _
    | exact PU.sureAddr _
    | exact PU.sliceBound _ _ _
    | exact PU.sliceBounds _ _ _ _ _ _
    | exact PU.slice _ _ _ _ _
    | exact (No.boundsPanic _ _ _ _).pu
    | exact (No.runtimePanic _).pu
    | exact PU.halt_ _
    | refine PU.bind_ ?_ (fun _ => ?_)
    | split
    | dsimp only
    | (exfalso; simp_all; done)
theorem PU.convInt (s d : TypeId) (k : IntKind) (n : Int) (hs : ∃ ks, P.underlying s = some (.int ks)) (hd : ∃ kd, P.underlying d = some (.int kd)) : PU P (Go.convert s d (.int k n)) := by
  obtain ⟨ks, hs⟩ := hs
  obtain ⟨kd, hd⟩ := hd
  have h : ∀ w, (Go.convert s d (.int k n)).run P w = .ok (.int kd (kd.wrap n)) w := fun w => by
    simp [Go.convert, run_underlying hs, run_underlying hd, Go.Conv.intToInt]
  intro w v w1 hr
  rw [h] at hr
  simp only [Result.ok.injEq] at hr
  exact ⟨hr.2.symm, fun w2 => by rw [h, hr.1]⟩
theorem PU.mapMl {γ : Type} {f : γ → Sem β} (hf : ∀ a, PU P (f a)) : ∀ l : List γ, PU P (l.mapM f)
  | [] => by rw [List.mapM_nil]; exact PU.pure_ _
  | a :: l => by rw [List.mapM_cons]; exact PU.bind_ (hf a) fun _ => PU.bind_ (PU.mapMl hf l) fun _ => PU.pure_ _
theorem PU.map_ {s : Sem α} (f : α → β) (h : PU P s) : PU P (f <$> s) := by
  rw [map_eq_pure_bind]
  exact PU.bind_ h fun _ => PU.pure_ _
theorem PU.mapMa {γ : Type} {f : γ → Sem β} (hf : ∀ a, PU P (f a)) (l : Array γ) : PU P (l.mapM f) := by
  rw [Array.mapM_eq_mapM_toList]
  exact PU.map_ _ (PU.mapMl hf _)
theorem PU.build (t : TypeId) (ps : Array (Nat × Value)) : PU P (Go.Instr.build t ps) := by
  unfold Go.Instr.build
  refine PU.bind_ (PU.zeroValue t) fun z => ?_
  dsimp only
  refine PU.bind_ (PU.underlying t) fun d => ?_
  split
  · refine PU.bind_ (PU.mapMa (fun f => PU.bind_ (PU.sizeOf _) fun _ => PU.pure_ _) _) fun pl => ?_
    split
    · exact PU.pure_ _
    · exact PU.stuck_ _
  · refine PU.bind_ (PU.sizeOf _) fun _ => ?_
    split
    · exact PU.pure_ _
    · exact PU.stuck_ _
  · exact PU.stuck_ _
theorem PU.fieldAt {s : TypeId} {n : Nat} {fs : Array Field} {f : Field} {i : TypeInfo} (hs : P.underlying s = some (.struct fs)) (hf : fs[n]? = some f) (hi : P.info? f.type = some i) (h0 : i.size ≠ 0) (x : Value) :
    PU P (Go.Instr.fieldAt s x n) := by
  have h : ∀ w, (Go.Instr.fieldAt s x n).run P w = ((Go.Instr.sureAddr x) >>= fun a => (pure (.pointer (some (a.add f.offset))) : Sem Value)).run P w := fun w => by
    simp [Go.Instr.fieldAt, run_underlying hs, hf, fieldPlace, Go.sizeOf, Go.typeInfo, hi, h0]
  have hp : PU P ((Go.Instr.sureAddr x) >>= fun a => (pure (.pointer (some (a.add f.offset))) : Sem Value)) := PU.bind_ (PU.sureAddr _) fun _ => PU.pure_ _
  intro w v w1 hr
  rw [h] at hr
  exact ⟨(hp w v w1 hr).1, fun w2 => by rw [h]; exact (hp w v w1 hr).2 w2⟩
theorem seen_none {w : World} {at_ : Addr} {u : TypeId} {k : Addr} {b : Bool} (h : w.heap[at_.block]? = none) : ∀ q, w.seen P at_ u k b ≠ .ok q := by
  intro q hq
  unfold World.seen at hq
  simp only [h, bind, Except.bind, pure, Except.pure, throw, throwThe, MonadExcept.throw, MonadExceptOf.throw] at hq
  repeat' (split at hq <;> try contradiction)
theorem RO.load (a : Addr) : RO P (Go.load a) := by
  intro w v w1 h
  unfold Go.load at h ⊢
  simp only [Sem.run] at h ⊢
  cases hc : w.cell? a with
  | some u =>
    rw [hc] at h
    simp only [Result.ok.injEq] at h
    refine ⟨h.2.symm, fun w2 hx => ?_⟩
    have : w2.cell? a = some u := by
      rw [← hc]
      unfold World.cell?
      rw [hx a.block (World.block_lt_of_cell? w a hc)]
    rw [this, h.1]
  | none =>
    rw [hc] at h
    simp only at h
    cases hf : w.farLoad P a (Mode.plain == .atomic) with
    | error e => rw [hf] at h; simp at h
    | ok r =>
      obtain ⟨u, l⟩ := r
      rw [hf] at h
      simp only [Result.ok.injEq] at h
      refine ⟨h.2.symm, fun w2 hx => ?_⟩
      unfold World.farLoad at hf
      cases hb : w.heap[a.block]? with
      | none => rw [hb] at hf; simp at hf
      | some o =>
        rw [hb] at hf
        have hlt : a.block < w.heap.size := (Array.getElem?_eq_some_iff.1 hb).1
        cases o with
        | view at_ ty =>
          simp only at hf
          have hseen : ∀ r, w.viewLoad P at_ ty a (Mode.plain == .atomic) = .ok r → w2.viewLoad P at_ ty a (Mode.plain == .atomic) = .ok r := by
            intro r hr
            cases hb2 : w.heap[at_.block]? with
            | none =>
              exfalso
              unfold World.viewLoad at hr
              cases hq : w.seen P at_ ty a (Mode.plain == .atomic) with
              | error e => simp [hq, bind, Except.bind] at hr
              | ok q => exact seen_none hb2 q hq
            | some o2 =>
              have hlt2 : at_.block < w.heap.size := (Array.getElem?_eq_some_iff.1 hb2).1
              unfold World.viewLoad World.seen at hr ⊢
              rw [hx _ hlt2]
              exact hr
          have hc2 : w2.cell? a = none := by
            unfold World.cell?
            rw [hx _ hlt, hb]
          rw [hc2]
          simp only
          unfold World.farLoad
          rw [hx _ hlt, hb]
          simp only
          cases hv : w.viewLoad P at_ ty a (Mode.plain == .atomic) with
          | error e => rw [hv] at hf; simp at hf
          | ok r =>
            rw [hv] at hf
            simp only [Except.ok.injEq] at hf
            rw [hseen r hv, hf]
            simp only [h.1]
        | _ => simp at hf
theorem RO.loadCellsFrom (a : Addr) : ∀ (n i : Nat) (acc : Array Value), RO P (Go.loadCellsFrom a i n acc)
  | 0, i, acc => RO.pure_ _
  | n + 1, i, acc => RO.bind_ (RO.load _) fun v => RO.loadCellsFrom a n (i + 1) _
theorem RO.loadVar (t : TypeId) (a : Addr) : RO P (Go.loadVar t a) := by
  unfold Go.loadVar
  refine RO.bind_ (PU.isAgg t).ro fun b => ?_
  split
  · exact RO.bind_ (PU.sizeOf t).ro fun n => RO.bind_ (RO.loadCellsFrom a n 0 #[]) fun _ => RO.pure_ _
  · exact RO.load a
theorem RO.loadAt (t : TypeId) (x : Value) : RO P (Go.Instr.loadAt t x) := RO.bind_ (PU.sureAddr x).ro fun _ => RO.loadVar t _
theorem PU.asBool (v : Value) : PU P (Go.asBool v) := by
  unfold Go.asBool
  split
  · exact PU.pure_ _
  · exact PU.stuck_ _
theorem PU.congr_ {s s' : Sem α} (h : ∀ w, s.run P w = s'.run P w) (hp : PU P s') : PU P s := by
  intro w v w1 hr
  rw [h] at hr
  exact ⟨(hp w v w1 hr).1, fun w2 => by rw [h]; exact (hp w v w1 hr).2 w2⟩
end
end Go.Proofs.Cab

/- A region whose order is open comes to what one fixed order of its operations comes to (second part). -/
set_option linter.unusedVariables false
set_option linter.unusedSimpArgs false
namespace Go.Proofs.Cab

/-! ### operations by what they do: 0 reckons, 1 reads, 2 lays a new block, 3 whatever else -/
def opKind : Op → Nat
  | .move _ | .assign _ | .pick _ _ _ | .extract _ _ | .fieldAddr _ _ _ | .field _ _ _ | .indexAddr _ _ _ | .index _ _ _ | .slice _ _ _ _ _ | .nilCheck _ | .binOp _ _ _ _ _ | .unOp _ _ _
  | .convert _ _ _ | .build _ _ => 0
  | .call { callee := .builtin .len, .. } => 0
  | .call { callee := .builtin .cap, .. } => 0
  | .load _ _ => 1
  | .alloc _ | .box _ _ | .buildSlice _ _ _ => 2
  | _ => 3
def isInt (P : Program) (t : TypeId) : Bool := match P.underlying t with | some (.int _) => true | _ => false
def opOk (P : Program) : Op → Bool
  | .fieldAddr s _ n => match P.underlying s with
    | some (.struct fs) => match fs[n]? with
      | some f => match P.info? f.type with
        | some i => i.size != 0
        | none => false
      | none => false
    | _ => false
  | .convert s d _ => isInt P s && isInt P d
  | _ => true
/-- Whether an operation asks anything of its operands. -/
def needDyn : Op → Bool
  | .nilCheck _ | .binOp _ _ _ _ _ | .convert _ _ _ => true
  | .call { callee := .builtin .len, .. } => true
  | .call { callee := .builtin .cap, .. } => true
  | _ => false
def opDyn (ρ : Operand → Value) : Op → Bool
  | .nilCheck x => match ρ x with
    | .pointer _ => true
    | .func (.func _) _ _ => true
    | _ => false
  | .binOp _ _ x y _ => match ρ x, ρ y with
    | .int _ _, .int _ _ => true
    | .string _, .string _ => true
    | .bool _, .bool _ => true
    | _, _ => false
  | .convert _ _ x => match ρ x with
    | .int _ _ => true
    | _ => false
  | .call { callee := .builtin .len, args, .. } => match args.toList with
    | [x] => match ρ x with
      | .slice _ _ _ => true
      | .string _ => true
      | _ => false
    | _ => false
  | .call { callee := .builtin .cap, args, .. } => match args.toList with
    | [x] => match ρ x with
      | .slice _ _ _ => true
      | _ => false
    | _ => false
  | _ => true
section
variable {P : Program}
theorem PU.op {ρ : Operand → Value} {o : Oper} (hk : opKind o.op = 0) (hs : opOk P o.op = true) (hd : opDyn ρ o.op = true) : PU P (execOp ρ o) := by
  obtain ⟨dst, op, type, pos, after, guard⟩ := o
  cases op <;> simp only [opKind, reduceCtorEq] at hk <;> simp only [execOp]
  case move x => exact PU.pure_ _
  case assign x => exact PU.pure_ _
  case pick c x y =>
    refine PU.bind_ (PU.asBool _) fun b => ?_
    split <;> exact PU.pure_ _
  case build t ps => exact PU.bind_ (PU.build _ _) fun _ => PU.pure_ _
  case nilCheck x =>
    simp only [opDyn] at hd
    split at hd
    · rename_i p hp
      rw [hp]
      cases p with
      | none => exact (No.runtimePanic _).pu
      | some a => exact PU.pure_ _
    · rename_i f a b hp
      rw [hp]
      exact PU.pure_ _
    · cases hd
  case binOp op t x y yt =>
    simp only [opDyn] at hd
    split at hd
    · rename_i hx hy
      rw [hx, hy]
      exact PU.bind_ (PU.bind_ (PU.eqGuardInt _ _ _ _ _ _ _ _) fun _ => PU.binInt _ _ _ _ _ _) fun _ => PU.pure_ _
    · rename_i hx hy
      rw [hx, hy]
      exact PU.bind_ (PU.bind_ (PU.eqGuardStr _ _ _ _ _ _) fun _ => PU.binStr _ _ _ _) fun _ => PU.pure_ _
    · rename_i hx hy
      rw [hx, hy]
      exact PU.bind_ (PU.bind_ (PU.eqGuardBool _ _ _ _ _ _) fun _ => PU.binBool _ _ _ _) fun _ => PU.pure_ _
    · cases hd
  case unOp op t x => exact PU.bind_ (PU.unary _ _) fun _ => PU.pure_ _
  case convert s d x =>
    simp only [opDyn] at hd
    simp only [opOk, Bool.and_eq_true] at hs
    split at hd
    · rename_i hx
      rw [hx]
      have h1 : ∀ t, isInt P t = true → ∃ k, P.underlying t = some (.int k) := fun t ht => by
        unfold isInt at ht
        split at ht
        · rename_i k hk
          exact ⟨k, hk⟩
        · cases ht
      exact PU.bind_ (PU.convInt _ _ _ _ (h1 _ hs.1) (h1 _ hs.2)) fun _ => PU.pure_ _
    · cases hd
  case slice t x lo hi mx => exact PU.bind_ (PU.sliceAt _ _ _ _ _) fun _ => PU.pure_ _
  case fieldAddr s x n =>
    simp only [opOk] at hs
    split at hs
    · rename_i fs hfs
      split at hs
      · rename_i f hf
        split at hs
        · rename_i i hi
          exact PU.bind_ (PU.fieldAt hfs hf hi (by simpa using hs) _) fun _ => PU.pure_ _
        · cases hs
      · cases hs
    · cases hs
  case field t x n => exact PU.bind_ (PU.field _ _ _) fun _ => PU.pure_ _
  case indexAddr t x i => exact PU.bind_ (PU.indexAt _ _ _) fun _ => PU.pure_ _
  case index t x i => exact PU.bind_ (PU.index _ _ _) fun _ => PU.pure_ _
  case extract x n => exact PU.bind_ (PU.extract _ _) fun _ => PU.pure_ _
  case call c =>
    obtain ⟨callee, args, argTypes⟩ := c
    cases callee with
    | builtin b =>
      cases b <;> simp only [opKind, reduceCtorEq] at hk
      case len =>
        simp only [opDyn] at hd
        split at hd
        · rename_i x hx
          obtain rfl : args = #[x] := by rw [← Array.toArray_toList (xs := args), hx]
          have h : ∀ (v : Value) (w : World), (execOp ρ { dst := dst, op := .call { callee := .builtin .len, args := #[x], argTypes := argTypes }, type := type, pos := pos, after := after, guard := guard }).run P w =
              (Builtin.len_ argTypes type #[ρ x] >>= fun v => (pure (.value v) : Sem Next)).run P w := fun v w => by
            simp [execOp, resolve, invoke, builtin]
          refine PU.congr_ (h undef) (PU.bind_ ?_ fun _ => PU.pure_ _)
          split at hd
          · rename_i hv
            rw [hv]
            exact PU.lenSlice _ _ _ _ _
          · rename_i hv
            rw [hv]
            exact PU.lenString _ _ _
          · cases hd
        · cases hd
      case cap =>
        simp only [opDyn] at hd
        split at hd
        · rename_i x hx
          obtain rfl : args = #[x] := by rw [← Array.toArray_toList (xs := args), hx]
          have h : ∀ (v : Value) (w : World), (execOp ρ { dst := dst, op := .call { callee := .builtin .cap, args := #[x], argTypes := argTypes }, type := type, pos := pos, after := after, guard := guard }).run P w =
              (Builtin.cap_ argTypes type #[ρ x] >>= fun v => (pure (.value v) : Sem Next)).run P w := fun v w => by
            simp [execOp, resolve, invoke, builtin]
          refine PU.congr_ (h undef) (PU.bind_ ?_ fun _ => PU.pure_ _)
          split at hd
          · rename_i hv
            rw [hv]
            exact PU.capSlice _ _ _ _ _
          · cases hd
        · cases hd
    | value f => simp [opKind] at hk
    | invoke r m => simp [opKind] at hk
theorem RO.op {ρ : Operand → Value} {o : Oper} (hk : opKind o.op = 1) : RO P (execOp ρ o) := by
  obtain ⟨dst, op, type, pos, after, guard⟩ := o
  cases op <;> simp only [opKind, reduceCtorEq, Nat.reduceEqDiff] at hk <;> simp only [execOp]
  case load t x => exact RO.bind_ (RO.loadAt _ _) fun _ => RO.pure_ _
  case call c =>
    obtain ⟨callee, args, argTypes⟩ := c
    cases callee with
    | builtin b => cases b <;> simp [opKind] at hk
    | value f => simp [opKind] at hk
    | invoke r m => simp [opKind] at hk
/-- The heap may have grown. -/
def GR (P : Program) {α : Type} (s : Sem α) : Prop := ∀ w v w1, s.run P w = .ok v w1 → Ext w w1
theorem GR.of_pu {α : Type} {s : Sem α} (h : PU P s) : GR P s := fun w v w1 hr => by rw [(h w v w1 hr).1]; exact Ext.refl w
theorem Ext.trans {a b c : World} (h : Ext a b) (hs : a.heap.size ≤ b.heap.size) (k : Ext b c) : Ext a c := fun i hi => (k i (Nat.lt_of_lt_of_le hi hs)).trans (h i hi)
theorem GR.new (o : Obj) : ∀ w v w1, (Go.newObj o).run P w = .ok v w1 → Ext w w1 := by
  intro w v w1 h
  unfold Go.newObj at h
  simp only [Sem.run, Result.ok.injEq] at h
  rw [← h.2]
  intro k hk
  simp only [Array.getElem?_push]
  rw [if_neg (by omega)]
theorem GR.bind1 {α β : Type} {s : Sem α} {f : α → Sem β} (hs : PU P s) (hf : ∀ a, GR P (f a)) : GR P (s >>= f) := by
  intro w v w1 h
  rw [Sem.run_bind] at h
  cases hr : s.run P w with
  | halt x w' => rw [hr] at h; simp [Result.andThen] at h
  | ok a w' =>
    rw [hr] at h
    obtain ⟨rfl, h2⟩ := hs w a w' hr
    exact hf a _ v w1 h
theorem GR.bind2 {α β : Type} {s : Sem α} {f : α → Sem β} (hs : GR P s) (hf : ∀ a, PU P (f a)) : GR P (s >>= f) := by
  intro w v w1 h
  rw [Sem.run_bind] at h
  cases hr : s.run P w with
  | halt x w' => rw [hr] at h; simp [Result.andThen] at h
  | ok a w' =>
    rw [hr] at h
    have e := (hf a w' v w1 h).1
    rw [e]
    exact hs w a w' hr
theorem GR.newRow (e : TypeId) (cs : Array Value) : GR P (Go.newRow e cs) := GR.bind2 (GR.new _) fun _ => PU.pure_ _
theorem GR.op {ρ : Operand → Value} {o : Oper} (hk : opKind o.op = 2) : GR P (execOp ρ o) := by
  obtain ⟨dst, op, type, pos, after, guard⟩ := o
  cases op <;> simp only [opKind, reduceCtorEq, Nat.reduceEqDiff] at hk <;> simp only [execOp]
  case alloc t =>
    refine GR.bind2 ?_ fun _ => PU.pure_ _
    unfold Go.Instr.alloc
    refine GR.bind1 (PU.zeroValue t) fun z => ?_
    exact GR.bind2 (GR.newRow _ _) fun _ => PU.pure_ _
  case box t x => exact GR.bind2 (GR.bind2 (GR.newRow _ _) fun _ => PU.pure_ _) fun _ => PU.pure_ _
  case buildSlice t n ps =>
    refine GR.bind2 ?_ fun _ => PU.pure_ _
    unfold Go.Instr.buildSlice
    refine GR.bind1 (PU.underlying _) fun d => ?_
    split
    · refine GR.bind1 (PU.sizeOf _) fun sz => ?_
      have rest : ∀ (e : TypeId) (sz : Nat) (z : Array Value), GR P (do
          let some cells := Go.Instr.fill (fun i => some (i * sz, sz)) ((Array.range (n * sz)).map (z[· % z.size]!)) (ps.map fun (i, x) => (i, ρ x)).toList
            | Go.stuck "buildSlice: a part of the wrong size"
          pure (.slice (some (← Go.newRow e cells)) n n) : Sem Value) := fun e sz z => by
        split
        · exact GR.bind2 (GR.newRow _ _) fun _ => PU.pure_ _
        · exact GR.of_pu (PU.stuck_ _)
      dsimp only
      split
      · intro w v w1 h
        rw [Sem.run_bind] at h
        simp [Go.unsupported, Sem.run, Result.andThen] at h
      · split
        · exact GR.bind1 (PU.pure_ _) fun _ => rest _ _ _
        · exact GR.bind1 (PU.zeroValue _) fun _ => GR.bind1 (PU.pure_ _) fun _ => rest _ _ _
    · exact GR.of_pu (PU.stuck_ _)
  case call c =>
    obtain ⟨callee, args, argTypes⟩ := c
    cases callee with
    | builtin b => cases b <;> simp [opKind] at hk
    | value f => simp [opKind] at hk
    | invoke r m => simp [opKind] at hk
end
end Go.Proofs.Cab

/- A region whose order is open comes to what one fixed order of its operations comes to (third part: the theorem). -/
set_option linter.unusedVariables false
set_option linter.unusedSimpArgs false
namespace Go.Proofs.Cab

/-! ### the fixed look at a region -/
def waitsF (ops : Array Oper) : Nat → Nat → Nat → Bool
  | 0, _, _ => false
  | f + 1, y, x => match ops[y]? with
    | some o => o.after.toList.any fun e => Region.binds .any e && (e.on == x || waitsF ops f e.on x)
    | none => false
def kindAt (ops : Array Oper) (i : Nat) : Nat := match ops[i]? with
  | some o => opKind o.op
  | none => 3
/-- Operation y, which may come up before x does, may change places with it: x stands before y in the fixed order. -/
def swapOk (fl : Nat → Bool) (ops : Array Oper) (x y : Nat) : Bool := match ops[x]?, ops[y]? with
  | some ox, some oy => ox.apart ops oy && (opKind ox.op == 0 || opKind oy.op == 0 || (opKind ox.op == 1 && opKind oy.op == 1) || (opKind ox.op == 1 && opKind oy.op == 2) || (opKind ox.op == 1 && fl y))
  | _, _ => false
def pairB (R : Nat → Nat → Bool) : List Nat → Bool
  | [] => true
  | x :: l => l.all (R x) && pairB R l
def waitsNot (ops : Array Oper) (x y : Nat) : Bool := match ops[x]? with
  | some o => o.after.toList.all fun e => !Region.binds .any e || e.on != y
  | none => false
/-- No later operation writes what an operation looks at. -/
def lateOk (ops : Array Oper) : List Nat → Bool
  | [] => true
  | i :: rest => (match ops[i]? with
    | some o => !needDyn o.op || (i :: rest).all fun k => match ops[k]? with
        | some ok => match ok.dst with
          | some d => !(o.looksAt ops).contains d
          | none => true
        | none => true
    | none => false) && lateOk ops rest
def canonB (fl : Nat → Bool) (P : Program) (ops : Array Oper) (ord : List Nat) : Bool :=
  Region.noSelect ops && (List.range ops.size).all (fun k => ord.contains k) && ord.all (fun k => decide (k < ops.size)) && pairB (fun x y => x != y) ord &&
  ops.all (fun o => (opKind o.op != 0 || opOk P o.op) && o.after.toList.all fun e => !Region.binds .any e || decide (e.on < ops.size)) &&
  ord.all (fun x => waitsNot ops x x) && pairB (fun x y => waitsNot ops x y) ord && pairB (fun x y => swapOk fl ops x y || waitsF ops ops.size y x) ord && lateOk ops ord
/-- Each reckoning has operands that it takes as they are. -/
def dynAll (ops : Array Oper) (a : Act) : Bool :=
  ops.toList.all fun o => !needDyn o.op || !Region.wanted o (yielded ops a.tmps) || opDyn a.eval o.op

theorem pairB_iff {R : Nat → Nat → Bool} : ∀ {l : List Nat}, pairB R l = true ↔ l.Pairwise (fun x y => R x y = true)
  | [] => by simp [pairB]
  | x :: l => by simp [pairB, List.pairwise_cons, pairB_iff (l := l)]

section
variable {P : Program} {ops : Array Oper} {Q : Exit → Act → World → Prop}

/-- At operation i the operands are such as a reckoning takes. -/
def dynAt (ops : Array Oper) (i : Nat) (a : Act) : Prop := ∀ o, ops[i]? = some o → Region.wanted o (yielded ops a.tmps) = true → opKind o.op = 0 → opDyn a.eval o.op = true
/-- The operations in a fixed order. -/
def wpC (fl : Nat → Bool) (P : Program) (ops : Array Oper) (Q : Exit → Act → World → Prop) : List Nat → Act → World → Prop
  | [], a, w => Q .normal a w
  | i :: rest, a, w => dynAt ops i a ∧ wpOp P ops Q i (fun a' w' => (fl i = true → Ext w w') ∧ wpC fl P ops Q rest a' w') a w
/-- The same without a word on the operands. -/
def wpF (fl : Nat → Bool) (P : Program) (ops : Array Oper) (Q : Exit → Act → World → Prop) : List Nat → Act → World → Prop
  | [], a, w => Q .normal a w
  | i :: rest, a, w => wpOp P ops Q i (fun a' w' => (fl i = true → Ext w w') ∧ wpF fl P ops Q rest a' w') a w

theorem opDyn_congr {ρ ρ' : Operand → Value} {op : Op} (h : ∀ x ∈ op.operands, ρ x = ρ' x) : opDyn ρ op = opDyn ρ' op := by
  cases op <;> simp only [opDyn]
  case nilCheck x => rw [h x (by simp [Op.operands])]
  case binOp b t x y yt => rw [h x (by simp [Op.operands]), h y (by simp [Op.operands])]
  case convert s d x => rw [h x (by simp [Op.operands])]
  case call c =>
    obtain ⟨callee, args, argTypes⟩ := c
    cases callee with
    | builtin b =>
      cases b <;> try rfl
      all_goals
        simp only [opDyn]
        split
        · rename_i x hx
          have : x ∈ args := by rw [← Array.mem_toList_iff, hx]; simp
          rw [h x (by simp [Op.operands, Call.operands, this])]
        · rfl
    | value f => rfl
    | invoke r m => rfl

theorem dynAt_put {i j : Nat} {oi oj : Oper} (hi : ops[i]? = some oi) (hj : ops[j]? = some oj) (hap : ∀ d, oi.dst = some d → d ∉ oj.looksAt ops) (a : Act) (v : Value) :
    dynAt ops j (a.put oi.dst v) ↔ dynAt ops j a := by
  have hw := wanted_put (ops := ops) oj a oi.dst v hap
  have he : opDyn (a.put oi.dst v).eval oj.op = opDyn a.eval oj.op := opDyn_congr fun x hx => Act.eval_put fun d hd hxd => hap d hd (by
    subst hxd
    exact List.mem_append_left _ (List.mem_filterMap.2 ⟨.tmp d, by simpa using hx, rfl⟩))
  constructor
  · intro h o ho hwo hk
    obtain rfl : oj = o := by rw [hj] at ho; exact Option.some.inj ho
    rw [← he]
    exact h oj ho (by rw [hw]; exact hwo) hk
  · intro h o ho hwo hk
    obtain rfl : oj = o := by rw [hj] at ho; exact Option.some.inj ho
    rw [he]
    exact h oj ho (by rw [← hw]; exact hwo) hk

/-- What a quiet operation does: it yields one value in every world that has grown (in every world, if it only reckons), or it isn't carried out. -/
theorem quiet_step {i : Nat} {o : Oper} {a : Act} {w : World} {K : Act → World → Prop} (hi : ops[i]? = some o) (hk : opKind o.op ≤ 1) (hok : opKind o.op = 0 → opOk P o.op = true)
    (hd : dynAt ops i a) (hnp : ∀ c a w, ¬ Q (.panic c) a w) (hno : ∀ a w, ¬ Q .outgrown a w) (h : wpOp P ops Q i K a w) :
    ∃ v, K (a.put o.dst v) w ∧ ((Region.wanted o (yielded ops a.tmps) = false ∧ v = undef) ∨
      (Region.wanted o (yielded ops a.tmps) = true ∧ (∀ w2, Ext w w2 → (execOp a.eval o).run P w2 = .ok (.value v) w2) ∧ (opKind o.op = 0 → ∀ w2, (execOp a.eval o).run P w2 = .ok (.value v) w2))) := by
  unfold wpOp at h
  simp only [hi] at h
  split at h
  · rename_i hw
    rcases h with h | ⟨_, a0, w0, hq⟩
    case inr => exact absurd hq (hno _ _)
    unfold Oper.wp at h
    have hval : ∀ n w', (execOp a.eval o).run P w = .ok n w' → ∃ v, n = .value v := by
      intro n w' hr
      obtain ⟨dst, op, type, pos, after, guard⟩ := o
      have key : ∀ (s : Sem Value), (s >>= fun v => (pure (.value v) : Sem Next)).run P w = .ok n w' → ∃ v, n = .value v := by
        intro s hs
        rw [Sem.run_bind] at hs
        cases hr : s.run P w with
        | halt x w'' => rw [hr] at hs; simp [Result.andThen] at hs
        | ok u w'' =>
          rw [hr] at hs
          simp only [Result.andThen, Sem.run_pure, Result.ok.injEq] at hs
          exact ⟨u, hs.1.symm⟩
      cases op <;> try (exfalso; revert hk; simp [opKind]; done)
      all_goals simp only [execOp] at hr
      case move x => simp only [Sem.run_pure, Result.ok.injEq] at hr; exact ⟨_, hr.1.symm⟩
      case assign x => simp only [Sem.run_pure, Result.ok.injEq] at hr; exact ⟨_, hr.1.symm⟩
      case pick c x y =>
        rw [Sem.run_bind] at hr
        cases hb : (asBool (a.eval c)).run P w with
        | halt x w'' => rw [hb] at hr; simp [Result.andThen] at hr
        | ok u w'' =>
          rw [hb] at hr
          simp only [Result.andThen] at hr
          split at hr <;> (simp only [Sem.run_pure, Result.ok.injEq] at hr; exact ⟨_, hr.1.symm⟩)
      case nilCheck x =>
        have hd' := hd _ hi hw rfl
        simp only [opDyn] at hd'
        split at hd'
        · rename_i p hp
          rw [hp] at hr
          cases p with
          | none => exact absurd hr (No.runtimePanic _ _ _ _)
          | some a => simp only [Sem.run_pure, Result.ok.injEq] at hr; exact ⟨_, hr.1.symm⟩
        · rename_i f p q hp
          rw [hp] at hr
          simp only [Sem.run_pure, Result.ok.injEq] at hr
          exact ⟨_, hr.1.symm⟩
        · cases hd'
      case call c =>
        obtain ⟨callee, args, argTypes⟩ := c
        cases callee with
        | builtin b =>
          cases b <;> try (exfalso; revert hk; simp [opKind]; done)
          all_goals
            simp only [resolve, Sem.run_bind, Sem.run_pure, Result.andThen_ok, invoke, builtin] at hr
            exact key _ (by rw [Sem.run_bind]; exact hr)
        | value f => simp [opKind] at hk
        | invoke r m => simp [opKind] at hk
      all_goals exact key _ hr
    cases hr : (execOp a.eval o).run P w with
    | halt x w' =>
      rw [hr] at h
      cases x <;> simp only [Oper.upon] at h
      exact absurd h (hnp _ _ _)
    | ok n w' =>
      obtain ⟨v, rfl⟩ := hval n w' hr
      rw [hr] at h
      simp only [Oper.upon] at h
      by_cases hk0 : opKind o.op = 0
      · have hp := PU.op (P := P) (ρ := a.eval) hk0 (hok hk0) (hd o hi hw hk0) w _ _ hr
        rw [hp.1] at h
        exact ⟨v, h, .inr ⟨hw, fun w2 _ => hp.2 w2, fun _ => hp.2⟩⟩
      · have hp := RO.op (P := P) (ρ := a.eval) (o := o) (by omega) w _ _ hr
        rw [hp.1] at h
        exact ⟨v, h, .inr ⟨hw, hp.2, fun e => absurd e hk0⟩⟩
  · rename_i hw
    exact ⟨undef, h, .inl ⟨by simpa using hw, rfl⟩⟩
end
end Go.Proofs.Cab

/- A region whose order is open comes to what one fixed order of its operations comes to (fourth part: two operations change places). -/
set_option linter.unusedVariables false
set_option linter.unusedSimpArgs false
namespace Go.Proofs.Cab
section
variable {P : Program} {ops : Array Oper} {Q : Exit → Act → World → Prop}

/-- What an operation leaves of the temporaries. -/
theorem wpOp_act {j : Nat} {oj : Oper} {K : Act → World → Prop} {a : Act} {w : World} (hj : ops[j]? = some oj) (h : wpOp P ops Q j K a w) :
    wpOp P ops Q j (fun a' w' => (∃ u d, a' = ({ a with defers := d } : Act).put oj.dst u) ∧ K a' w') a w := by
  unfold wpOp at *
  simp only [hj] at *
  split
  · rename_i hw
    simp only [hw, if_true] at h
    rcases h with h | h
    case inr => exact .inr h
    refine .inl ?_
    unfold Oper.wp at *
    generalize (execOp a.eval oj).run P w = r at *
    cases r with
    | ok n w' =>
      cases n <;> simp only [Oper.upon] at h ⊢
      case value u => exact ⟨⟨u, a.defers, rfl⟩, h⟩
      case skip => exact ⟨⟨undef, a.defers, rfl⟩, h⟩
      case defer d => exact ⟨⟨undef, d :: a.defers, rfl⟩, h⟩
      case enter f args =>
        refine Calls.mono h fun e w'' he => ?_
        cases e with
        | returned u => exact ⟨⟨u, a.defers, rfl⟩, he⟩
        | panicked c => exact he
        | outgrown => exact he
      case row row args => exact Rows.mono h fun u w'' he => ⟨⟨u, a.defers, rfl⟩, he⟩
    | halt x w' => cases x <;> simp only [Oper.upon] at h ⊢ <;> exact h
  · rename_i hw
    simp only [hw] at h
    exact ⟨⟨undef, a.defers, rfl⟩, h⟩

/-- It comes somewhere. -/
theorem wpOp_some {j : Nat} {oj : Oper} {K : Act → World → Prop} {a : Act} {w : World} (hj : ops[j]? = some oj) (hnp : ∀ c a w, ¬ Q (.panic c) a w) (hno : ∀ a w, ¬ Q .outgrown a w) (h : wpOp P ops Q j K a w) :
    ∃ a' w', K a' w' := by
  unfold wpOp at *
  simp only [hj] at *
  split at h
  · rcases h with h | ⟨_, a0, w0, hq⟩
    case inr => exact absurd hq (hno _ _)
    unfold Oper.wp at *
    generalize (execOp a.eval oj).run P w = r at *
    cases r with
    | ok n w' =>
      cases n <;> simp only [Oper.upon] at h
      case value u => exact ⟨_, _, h⟩
      case skip => exact ⟨_, _, h⟩
      case defer d => exact ⟨_, _, h⟩
      case enter f args =>
        obtain ⟨e, w'', fr, hR, _⟩ := h []
        cases e with
        | returned u => exact ⟨_, _, hR⟩
        | panicked c => exact absurd hR (hnp _ _ _)
        | outgrown =>
          obtain ⟨a0, w0, hq⟩ := hR
          exact absurd hq (hno _ _)
      case row row args =>
        obtain ⟨v, w'', hR, _⟩ := h default []
        exact ⟨_, _, hR⟩
    | halt x w' =>
      cases x <;> simp only [Oper.upon] at h
      exact absurd h (hnp _ _ _)
  · exact ⟨_, _, h⟩

/-- A value put into a temporary that an operation neither looks at nor writes may as well be put behind it. -/
theorem wpOp_shift {j : Nat} {oj : Oper} {dst : Option Tmp} {v : Value} (hj : ops[j]? = some oj) (hsj : ∀ cs b, oj.op ≠ .select cs b) (h1 : ∀ d, dst = some d → d ∉ oj.looksAt ops) (h2 : ∀ d, dst = some d → oj.dst ≠ some d)
    (hnp : ∀ c a w, ¬ Q (.panic c) a w) {K : Act → World → Prop} {a : Act} {w : World}
    (h : wpOp P ops Q j (fun a' w' => K (a'.put dst v) w') a w) : wpOp P ops Q j K (a.put dst v) w := by
  unfold wpOp at *
  simp only [hj] at *
  rw [wanted_put oj a dst v h1]
  split
  · rename_i hw
    simp only [hw, if_true] at h
    rcases h with h | ⟨hasks, hlets⟩
    case inr => exact .inr ⟨by unfold Oper.asks at *; rw [execOp_put oj hsj a dst v h1]; exact hasks, hlets⟩
    refine .inl ?_
    unfold Oper.wp at *
    rw [execOp_put oj hsj a dst v h1]
    generalize (execOp a.eval oj).run P w = r at *
    cases r with
    | ok n w' =>
      cases n <;> simp only [Oper.upon] at h ⊢
      case value u => rw [Act.put_comm a v u h2]; exact h
      case skip => rw [Act.put_comm a v undef h2]; exact h
      case defer d =>
        rw [Act.put_defers, Act.put_comm _ v undef h2]
        exact h
      case enter f args =>
        refine Calls.mono h fun e w'' he => ?_
        cases e with
        | returned u => show K _ _; rw [Act.put_comm a v u h2]; exact he
        | panicked c => exact absurd he (hnp _ _ _)
        | outgrown => exact he
      case row row args => exact Rows.mono h fun u w'' he => by rw [Act.put_comm a v u h2]; exact he
    | halt x w' =>
      cases x <;> simp only [Oper.upon] at h ⊢
      case panic u => exact absurd h (hnp _ _ _)
  · rename_i hw
    simp only [hw] at h
    rw [Act.put_comm a v undef h2]
    exact h

theorem dynAt_defers {j : Nat} {a : Act} {d : List Deferred} : dynAt ops j ({ a with defers := d } : Act) ↔ dynAt ops j a := by
  have he : ({ a with defers := d } : Act).eval = a.eval := by funext x; cases x <;> rfl
  unfold dynAt
  rw [he]

/-- Behind an operation that reckons, reads or lays a block the heap has grown, if that. -/
theorem wpOp_ext {j : Nat} {oj : Oper} {K : Act → World → Prop} {a : Act} {w : World} (hj : ops[j]? = some oj) (hk : opKind oj.op ≤ 2) (hok : opKind oj.op = 0 → opOk P oj.op = true) (hd : dynAt ops j a)
    (hnp : ∀ c a w, ¬ Q (.panic c) a w) (hno : ∀ a w, ¬ Q .outgrown a w) (h : wpOp P ops Q j K a w) : wpOp P ops Q j (fun a' w' => Ext w w' ∧ K a' w') a w := by
  by_cases hk1 : opKind oj.op ≤ 1
  · obtain ⟨v, hK, hy⟩ := quiet_step hj hk1 hok hd hnp hno h
    have hy' : YieldsIf P ops (Ext w) oj v a := by
      rcases hy with ⟨h1, h2⟩ | ⟨h1, h2, _⟩
      · exact .inr ⟨h1, h2⟩
      · exact .inl ⟨h1, h2⟩
    exact hy'.wpOp hj (Ext.refl w) ⟨Ext.refl w, hK⟩
  · have hk2 : opKind oj.op = 2 := by omega
    unfold wpOp at *
    simp only [hj] at *
    split
    · rename_i hw
      simp only [hw, if_true] at h
      refine h.imp (fun h => ?_) id
      unfold Oper.wp at *
      have hg := GR.op (P := P) (ρ := a.eval) hk2 w
      have hval : ∀ n w', (execOp a.eval oj).run P w = .ok n w' → ∃ v, n = .value v := by
        intro n w' hr
        clear h
        obtain ⟨dst, op, type, pos, after, guard⟩ := oj
        have key : ∀ (s : Sem Value), (s >>= fun v => (pure (.value v) : Sem Next)).run P w = .ok n w' → ∃ v, n = .value v := by
          intro s hs
          rw [Sem.run_bind] at hs
          cases hr : s.run P w with
          | halt x w'' => rw [hr] at hs; simp [Result.andThen] at hs
          | ok u w'' =>
            rw [hr] at hs
            simp only [Result.andThen, Sem.run_pure, Result.ok.injEq] at hs
            exact ⟨u, hs.1.symm⟩
        cases op <;> try (exfalso; revert hk2; simp [opKind]; done)
        all_goals simp only [execOp] at hr
        case call c =>
          obtain ⟨callee, args, argTypes⟩ := c
          cases callee with
          | builtin b => cases b <;> (exfalso; revert hk2; simp [opKind])
          | value f => simp [opKind] at hk2
          | invoke r m => simp [opKind] at hk2
        all_goals exact key _ hr
      cases hr : (execOp a.eval oj).run P w with
      | halt x w' =>
        rw [hr] at h
        cases x <;> simp only [Oper.upon] at h
        exact absurd h (hnp _ _ _)
      | ok n w' =>
        obtain ⟨v, rfl⟩ := hval n w' hr
        rw [hr] at h
        simp only [Oper.upon] at h ⊢
        exact ⟨hg _ _ hr, h⟩
    · rename_i hw
      simp only [hw] at h
      exact ⟨Ext.refl w, h⟩

theorem swap (fl : Nat → Bool) {x j : Nat} {ox oj : Oper} (hx : ops[x]? = some ox) (hj : ops[j]? = some oj) (hap : ox.apart ops oj = true)
    (hkind : opKind ox.op = 0 ∨ opKind oj.op = 0 ∨ (opKind ox.op = 1 ∧ opKind oj.op = 1) ∨ (opKind ox.op = 1 ∧ opKind oj.op = 2) ∨ (opKind ox.op = 1 ∧ fl j = true))
    (hokx : opKind ox.op = 0 → opOk P ox.op = true) (hokj : opKind oj.op = 0 → opOk P oj.op = true) (hsx : ∀ cs b, ox.op ≠ .select cs b) (hsj : ∀ cs b, oj.op ≠ .select cs b)
    (hnp : ∀ c a w, ¬ Q (.panic c) a w) (hno : ∀ a w, ¬ Q .outgrown a w) {K : Act → World → Prop} {a : Act} {w : World}
    (hd : dynAt ops x a) (h : wpOp P ops Q x (fun a' w' => (fl x = true → Ext w w') ∧ dynAt ops j a' ∧ wpOp P ops Q j (fun a2 w2 => (fl j = true → Ext w' w2) ∧ K a2 w2) a' w') a w) :
    dynAt ops j a ∧ wpOp P ops Q j (fun a' w' => (fl j = true → Ext w w') ∧ dynAt ops x a' ∧ wpOp P ops Q x (fun a2 w2 => (fl x = true → Ext w' w2) ∧ K a2 w2) a' w') a w := by
  obtain ⟨h1, h2, h3⟩ := Oper.apart_spec hap
  have h2' : ∀ d, oj.dst = some d → ox.dst ≠ some d := fun d e e' => h2 d e' e
  by_cases hkx : opKind ox.op ≤ 1
  · obtain ⟨v, ⟨_, hdj, hK⟩, hy⟩ := quiet_step hx hkx hokx hd hnp hno h
    have hdj' : dynAt ops j a := (dynAt_put hx hj h1 a v).1 hdj
    refine ⟨hdj', ?_⟩
    have fin : ∀ (S : World → Prop), YieldsIf P ops S ox v a → wpOp P ops Q j (fun a' w' => S w' ∧ (fl j = true → Ext w w') ∧ K a' w') (a.put ox.dst v) w →
        wpOp P ops Q j (fun a' w' => (fl j = true → Ext w w') ∧ dynAt ops x a' ∧ wpOp P ops Q x (fun a2 w2 => (fl x = true → Ext w' w2) ∧ K a2 w2) a' w') a w := by
      intro S hyS hKS
      have h4 := wpOp_putIf hj hap hsx hsj (fun c a w hq => absurd hq (hnp _ _ _)) hyS hKS
      refine wpOp_mono (fun a' w' h5 => ?_) (wpOp_act hj h4)
      obtain ⟨⟨u, d, rfl⟩, hy5, hS5, hf5, hK5⟩ := h5
      exact ⟨hf5, (dynAt_put hj hx h3 _ u).2 (dynAt_defers.2 hd), hy5.wpOp hx hS5 ⟨fun _ => Ext.refl _, hK5⟩⟩
    by_cases hk0 : opKind ox.op = 0
    · refine fin (fun _ => True) ?_ (wpOp_mono (fun _ _ h => ⟨trivial, h⟩) hK)
      rcases hy with ⟨e1, e2⟩ | ⟨e1, _, e3⟩
      · exact .inr ⟨e1, e2⟩
      · exact .inl ⟨e1, fun w2 _ => e3 hk0 w2⟩
    · refine fin (Ext w) ?_ ?_
      · rcases hy with ⟨e1, e2⟩ | ⟨e1, e2, _⟩
        · exact .inr ⟨e1, e2⟩
        · exact .inl ⟨e1, e2⟩
      · by_cases hfj : fl j = true
        · exact wpOp_mono (fun _ _ h => ⟨h.1 hfj, h⟩) hK
        · refine wpOp_ext hj ?_ hokj hdj hnp hno hK
          rcases hkind with h | h | h | h | h
          · omega
          · omega
          · omega
          · omega
          · exact absurd h.2 hfj
  · have hkj : opKind oj.op = 0 := by omega
    have hA := wpOp_act hx h
    obtain ⟨a', w', ⟨u, d, rfl⟩, _, hdj, hj'⟩ := wpOp_some hx hnp hno hA
    have hdj' : dynAt ops j a := dynAt_defers.1 ((dynAt_put hx hj h1 _ u).1 hdj)
    refine ⟨hdj', ?_⟩
    have heD : ∀ d, ({ a with defers := d } : Act).eval = a.eval := fun d => by funext x; cases x <;> rfl
    have tr : ∀ (u : Value) (d : List Deferred) (v : Value), Yields P ops oj v (({ a with defers := d } : Act).put ox.dst u) ↔ Yields P ops oj v a := by
      intro u d v
      have e1 := execOp_put (ops := ops) oj hsj ({ a with defers := d } : Act) ox.dst u h1
      have e2 := wanted_put (ops := ops) oj ({ a with defers := d } : Act) ox.dst u h1
      rw [heD] at e1
      constructor
      · intro hy; exact hy.of_same e1.symm e2.symm
      · intro hy; exact hy.of_same e1 e2
    obtain ⟨v, _, hy⟩ := quiet_step hj (by omega) hokj hdj hnp hno hj'
    have hyv : Yields P ops oj v a := (tr u d v).1 (by
      rcases hy with ⟨e1, e2⟩ | ⟨e1, _, e3⟩
      · exact .inr ⟨e1, e2⟩
      · exact .inl ⟨e1, e3 hkj⟩)
    refine hyv.wpOp hj ⟨fun _ => Ext.refl w, (dynAt_put hj hx h3 _ v).2 hd, wpOp_shift hx hsx h3 h2' hnp ?_⟩
    refine wpOp_mono (fun a' w' h5 => ?_) hA
    obtain ⟨⟨u5, d5, rfl⟩, hf5, hdj5, hj5⟩ := h5
    obtain ⟨v5, ⟨_, hK5⟩, hy5⟩ := quiet_step hj (by omega) hokj hdj5 hnp hno hj5
    have hyv5 : Yields P ops oj v5 a := (tr u5 d5 v5).1 (by
      rcases hy5 with ⟨e1, e2⟩ | ⟨e1, _, e3⟩
      · exact .inr ⟨e1, e2⟩
      · exact .inl ⟨e1, e3 hkj⟩)
    have hvv : v = v5 := by
      rcases hyv with ⟨e1, e2⟩ | ⟨e1, e2⟩ <;> rcases hyv5 with ⟨f1, f2⟩ | ⟨f1, f2⟩
      · have := (e2 w).symm.trans (f2 w)
        simp only [Result.ok.injEq, Next.value.injEq] at this
        exact this.1
      · rw [e1] at f1; cases f1
      · rw [e1] at f1; cases f1
      · rw [e2, f2]
    rw [hvv]
    exact ⟨hf5, hK5⟩
end
end Go.Proofs.Cab

/- A region whose order is open comes to what one fixed order of its operations comes to (fifth part: the theorem). -/
set_option linter.unusedVariables false
set_option linter.unusedSimpArgs false
namespace Go.Proofs.Cab
section
variable {P : Program} {ops : Array Oper} {Q : Exit → Act → World → Prop} {fl : Nat → Bool}

/-- What is left of a region, in the fixed order, beside what has come up. -/
structure Left (fl : Nat → Bool) (P : Program) (ops : Array Oper) (rem : List Nat) (listed : Array Bool) : Prop where
  size : listed.size = ops.size
  lt : ∀ k ∈ rem, k < ops.size
  iff : ∀ k, k < ops.size → (listed.getD k true = false ↔ k ∈ rem)
  nodup : rem.Pairwise (fun x y => (x != y) = true)
  order : rem.Pairwise (fun x y => waitsNot ops x y = true)
  self : ∀ x ∈ rem, waitsNot ops x x = true
  sw : rem.Pairwise (fun x y => (swapOk fl ops x y || waitsF ops ops.size y x) = true)
  closed : ∀ k o, ops[k]? = some o → k ∉ rem → ∀ e ∈ o.after, Region.binds .any e = true → e.on ∉ rem
  inR : ∀ (k : Nat) (o : Oper), ops[k]? = some o → ∀ e ∈ o.after, Region.binds .any e = true → e.on < ops.size

theorem Left.listed_of {rem : List Nat} {listed : Array Bool} (h : Left fl P ops rem listed) {k : Nat} (hk : k < ops.size) (hn : k ∉ rem) : listed.getD k false = true := by
  have hs : k < listed.size := by rw [h.size]; exact hk
  have h1 : ¬ listed.getD k true = false := fun e => hn ((h.iff k hk).1 e)
  simp only [Array.getD, hs, dif_pos] at h1 ⊢
  simpa using h1

theorem Left.ready_iff {rem : List Nat} {listed : Array Bool} (h : Left fl P ops rem listed) {j : Nat} : j ∈ Region.ready .any ops listed ↔ j ∈ rem ∧ ∃ o, ops[j]? = some o ∧ ∀ e ∈ o.after, Region.binds .any e = true → e.on ∉ rem := by
  rw [mem_ready]
  constructor
  · rintro ⟨h0, o, ho, ha⟩
    have hlt := (Array.getElem?_eq_some_iff.1 ho).1
    refine ⟨(h.iff j hlt).1 h0, o, ho, fun e he hb hm => ?_⟩
    have h1 := ha e he hb
    have hel := h.inR j o ho e he hb
    have h2 := (h.iff _ hel).2 hm
    have hs : e.on < listed.size := by rw [h.size]; exact hel
    simp only [Array.getD, hs, dif_pos] at h1 h2
    rw [h1] at h2
    cases h2
  · rintro ⟨hm, o, ho, ha⟩
    have hlt := h.lt j hm
    exact ⟨(h.iff j hlt).2 hm, o, ho, fun e he hb => h.listed_of (h.inR j o ho e he hb) (ha e he hb)⟩

/-- What is ready waits for nothing that is left. -/
theorem Left.waits_not {rem : List Nat} {listed : Array Bool} (h : Left fl P ops rem listed) : ∀ (f y x : Nat), (∀ o, ops[y]? = some o → ∀ e ∈ o.after, Region.binds .any e = true → e.on ∉ rem) → waitsF ops f y x = true → x ∉ rem
  | 0, y, x, _, hw => by simp [waitsF] at hw
  | f + 1, y, x, hy, hw => by
    unfold waitsF at hw
    split at hw
    · rename_i o ho
      obtain ⟨e, he, h1⟩ := List.any_eq_true.1 hw
      simp only [Bool.and_eq_true, Bool.or_eq_true, beq_iff_eq] at h1
      have hn := hy o ho e (by simpa using he) h1.1
      rcases h1.2 with h2 | h2
      · rw [← h2]; exact hn
      · exact Left.waits_not h f e.on x (fun o' ho' e' he' hb' => h.closed e.on o' ho' hn e' he' hb') h2
    · cases hw

theorem Left.head_ready {x : Nat} {rem : List Nat} {listed : Array Bool} (h : Left fl P ops (x :: rem) listed) : x ∈ Region.ready .any ops listed := by
  rw [h.ready_iff]
  have hlt := h.lt x List.mem_cons_self
  have ho : ops[x]? = some ops[x] := Array.getElem?_eq_getElem hlt
  refine ⟨List.mem_cons_self, ops[x], ho, fun e he hb hm => ?_⟩
  have key : ∀ y, waitsNot ops x y = true → e.on ≠ y := fun y hy heq => by
    unfold waitsNot at hy
    rw [ho] at hy
    have := List.all_eq_true.1 hy e (by simpa using he)
    simp [hb, heq] at this
  rcases List.mem_cons.1 hm with h1 | h1
  · exact key x (h.self x List.mem_cons_self) h1
  · exact key e.on ((List.pairwise_cons.1 h.order).1 _ h1) rfl

theorem Left.take {p q : List Nat} {j : Nat} {listed : Array Bool} (h : Left fl P ops (p ++ j :: q) listed) (hr : j ∈ Region.ready .any ops listed) : Left fl P ops (p ++ q) (listed.setIfInBounds j true) := by
  have hsub : (p ++ q).Sublist (p ++ j :: q) := List.Sublist.append_left (List.sublist_cons_self j q) p
  have hj : j ∈ p ++ j :: q := by simp
  have hjlt := h.lt j hj
  have hne : ∀ k ∈ p ++ q, k ≠ j := by
    intro k hk e
    subst e
    have hnd := h.nodup
    rw [List.pairwise_append] at hnd
    rcases List.mem_append.1 hk with h1 | h1
    · have := hnd.2.2 k h1 k (by simp); simp at this
    · have := (List.pairwise_cons.1 hnd.2.1).1 k h1; simp at this
  refine ⟨by simp [h.size], fun k hk => h.lt k (hsub.subset hk), fun k hk => ?_, h.nodup.sublist hsub, h.order.sublist hsub, fun x hx => h.self x (hsub.subset hx), h.sw.sublist hsub, ?_, h.inR⟩
  · by_cases hkj : j = k
    · subst hkj
      have hs : j < listed.size := by rw [h.size]; exact hk
      constructor
      · intro h1; simp [hs] at h1
      · intro h1; exact absurd rfl (hne j h1)
    · rw [getD_set_ne true hkj, h.iff k hk]
      constructor
      · intro h1
        rcases List.mem_append.1 h1 with h2 | h2
        · exact List.mem_append_left _ h2
        · rcases List.mem_cons.1 h2 with h3 | h3
          · exact absurd h3.symm hkj
          · exact List.mem_append_right _ h3
      · intro h1; exact hsub.subset h1
  · intro k o ho hk e he hb hm
    by_cases hkj : k = j
    · subst hkj
      obtain ⟨_, o', ho', ha⟩ := h.ready_iff.1 hr
      obtain rfl : o = o' := by rw [ho] at ho'; exact Option.some.inj ho'
      exact ha e he hb (hsub.subset hm)
    · refine h.closed k o ho (fun h1 => hk ?_) e he hb (hsub.subset hm)
      rcases List.mem_append.1 h1 with h2 | h2
      · exact List.mem_append_left _ h2
      · rcases List.mem_cons.1 h2 with h3 | h3
        · exact absurd h3 hkj
        · exact List.mem_append_right _ h3

/-- An operation comes to the front. -/
theorem wpC_front (hsel : Region.noSelect ops = true) (hok : ∀ o ∈ ops, opKind o.op = 0 → opOk P o.op = true) (hnp : ∀ c a w, ¬ Q (.panic c) a w) (hno : ∀ a w, ¬ Q .outgrown a w) {j : Nat} {q : List Nat} :
    ∀ (p : List Nat), (∀ x ∈ p, swapOk fl ops x j = true) → ∀ a w, wpC fl P ops Q (p ++ j :: q) a w → wpC fl P ops Q (j :: (p ++ q)) a w
  | [], _, a, w, h => h
  | x :: p, hp, a, w, h => by
    have hx := hp x List.mem_cons_self
    unfold swapOk at hx
    split at hx
    · rename_i ox oj hox hoj
      simp only [Bool.and_eq_true, Bool.or_eq_true, beq_iff_eq] at hx
      obtain ⟨hd, h1⟩ := h
      have h2 : wpOp P ops Q x (fun a' w' => (fl x = true → Ext w w') ∧ dynAt ops j a' ∧ wpOp P ops Q j (fun a2 w2 => (fl j = true → Ext w' w2) ∧ wpC fl P ops Q (p ++ q) a2 w2) a' w') a w :=
        wpOp_mono (fun a' w' h' => ⟨h'.1, wpC_front hsel hok hnp hno p (fun y hy => hp y (List.mem_cons_of_mem _ hy)) a' w' h'.2⟩) h1
      have h3 := swap fl hox hoj hx.1 (by
          rcases hx.2 with (((h | h) | h) | h) | h
          · exact .inl h
          · exact .inr (.inl h)
          · exact .inr (.inr (.inl h))
          · exact .inr (.inr (.inr (.inl h)))
          · exact .inr (.inr (.inr (.inr h))))
        (hok ox (Array.mem_of_getElem? hox)) (hok oj (Array.mem_of_getElem? hoj)) (fun cs b => Region.noSelect_spec hsel x ox cs b hox) (fun cs b => Region.noSelect_spec hsel j oj cs b hoj) hnp hno hd h2
      exact h3
    · cases hx

/-- Whatever order is drawn. -/
theorem wpAny_of_wpC (hsel : Region.noSelect ops = true) (hok : ∀ o ∈ ops, opKind o.op = 0 → opOk P o.op = true) (hnp : ∀ c a w, ¬ Q (.panic c) a w) (hno : ∀ a w, ¬ Q .outgrown a w) :
    ∀ (n : Nat) (rem : List Nat) (listed : Array Bool) (a : Act) (w : World), rem.length = n → Left fl P ops rem listed → wpC fl P ops Q rem a w → wpAny P .any ops Q n listed a w := by
  intro n
  induction n with
  | zero =>
    intro rem listed a w hn hL h
    obtain rfl := List.eq_nil_of_length_eq_zero hn
    refine ⟨?_, h⟩
    apply List.eq_nil_iff_forall_not_mem.2
    intro j hj
    have := (hL.ready_iff.1 hj).1
    simp at this
  | succ n ih =>
    intro rem listed a w hn hL h
    cases rem with
    | nil => simp at hn
    | cons x rem =>
      refine ⟨fun h0 => ?_, fun j hj => ?_⟩
      · have := hL.head_ready
        rw [h0] at this
        cases this
      · have hjr := hL.ready_iff.1 hj
        obtain ⟨p, q, hpq⟩ := List.append_of_mem hjr.1
        rw [hpq] at h hL hn
        have hsw : ∀ y ∈ p, swapOk fl ops y j = true := by
          intro y hy
          have h1 := (List.pairwise_append.1 hL.sw).2.2 y hy j (by simp)
          simp only [Bool.or_eq_true] at h1
          rcases h1 with h1 | h1
          · exact h1
          · exfalso
            obtain ⟨_, o', ho', ha⟩ := hL.ready_iff.1 hj
            refine hL.waits_not ops.size j y (fun o ho e he hb => ?_) h1 (by simp [hy])
            obtain rfl : o = o' := by rw [ho] at ho'; exact Option.some.inj ho'
            exact ha e he hb
        obtain ⟨_, h2⟩ := wpC_front hsel hok hnp hno p hsw a w h
        have hL2 := hL.take hj
        refine wpOp_mono (fun a' w' h' => ih (p ++ q) _ a' w' (by simp at hn ⊢; omega) hL2 h'.2) h2

/-- At the end of the region each temporary that nobody writes any more is as it was. -/
theorem wpF_end (hnp : ∀ c a w, ¬ Q (.panic c) a w) (hno : ∀ a w, ¬ Q .outgrown a w) : ∀ (l : List Nat) (a : Act) (w : World), (∀ k ∈ l, k < ops.size) → wpF fl P ops Q l a w →
    ∃ a' w', Q .normal a' w' ∧ ∀ t, (∀ k ∈ l, ∀ o, ops[k]? = some o → o.dst ≠ some t) → a'.tmps[t]? = a.tmps[t]?
  | [], a, w, _, h => ⟨a, w, h, fun _ _ => rfl⟩
  | i :: l, a, w, hl, h => by
    have hlt := hl i List.mem_cons_self
    have ho : ops[i]? = some ops[i] := Array.getElem?_eq_getElem hlt
    obtain ⟨a1, w1, ⟨u, d, rfl⟩, _, h1⟩ := wpOp_some ho hnp hno (wpOp_act ho h)
    obtain ⟨a2, w2, hq, ht⟩ := wpF_end hnp hno l _ w1 (fun k hk => hl k (List.mem_cons_of_mem _ hk)) h1
    refine ⟨a2, w2, hq, fun t hT => ?_⟩
    rw [ht t (fun k hk => hT k (List.mem_cons_of_mem _ hk))]
    have hne := hT i List.mem_cons_self _ ho
    cases hd : ops[i].dst with
    | none => rfl
    | some e =>
      have : e ≠ t := fun e' => hne (by rw [hd, e'])
      simp [Act.put, Array.getElem?_setIfInBounds_ne this]

def Only (ops : Array Oper) (Q : Exit → Act → World → Prop) : Exit → Act → World → Prop := fun e a w => e = .normal ∧ dynAll ops a = true ∧ Q .normal a w
def Strict (Q : Exit → Act → World → Prop) : Exit → Act → World → Prop := fun e a w => e = .normal ∧ Q .normal a w

theorem eval_of_tmps {a a' : Act} {x : Operand} (h : ∀ t, x = .tmp t → a'.tmps[t]? = a.tmps[t]?) : a'.eval x = a.eval x := by
  cases x with
  | tmp t => simp [Act.eval, h t rfl]
  | _ => rfl

theorem wpC_of_wpF : ∀ (l : List Nat) (a : Act) (w : World), (∀ k ∈ l, k < ops.size) → lateOk ops l = true → wpF fl P ops (Only ops Q) l a w → wpC fl P ops (Strict Q) l a w
  | [], a, w, _, _, h => ⟨rfl, h.2.2⟩
  | i :: l, a, w, hl, hlate, h => by
    have hnp : ∀ c a w, ¬ (Only ops Q) (.panic c) a w := fun c a w hq => by cases hq.1
    have hno : ∀ a w, ¬ (Only ops Q) .outgrown a w := fun a w hq => by cases hq.1
    have hlt := hl i List.mem_cons_self
    have ho : ops[i]? = some ops[i] := Array.getElem?_eq_getElem hlt
    simp only [lateOk, ho, Bool.and_eq_true] at hlate
    refine ⟨?_, ?_⟩
    · intro o ho' hw hk
      obtain rfl : ops[i] = o := by rw [ho] at ho'; exact Option.some.inj ho'
      by_cases hn : needDyn ops[i].op = true
      · obtain ⟨a', w', hq, ht⟩ := wpF_end hnp hno (i :: l) a w hl h
        have hdyn := hq.2.1
        have hall := List.all_eq_true.1 hdyn ops[i] (by simp)
        have hlook : ∀ t, t ∈ ops[i].looksAt ops → a'.tmps[t]? = a.tmps[t]? := fun t htm => ht t fun k hk o ho2 hd => by
          have h1 := hlate.1
          simp only [hn, Bool.not_true, Bool.false_or] at h1
          have h2 := List.all_eq_true.1 h1 k hk
          rw [ho2] at h2
          simp [hd, htm] at h2
        have he : opDyn a'.eval ops[i].op = opDyn a.eval ops[i].op := opDyn_congr fun x hx => eval_of_tmps fun t hxt => hlook t (by
          subst hxt
          exact List.mem_append_left _ (List.mem_filterMap.2 ⟨.tmp t, by simpa using hx, rfl⟩))
        have hwe : Region.wanted ops[i] (yielded ops a'.tmps) = Region.wanted ops[i] (yielded ops a.tmps) := by
          unfold Region.wanted
          cases hg : ops[i].guard with
          | none => rfl
          | some gw =>
            obtain ⟨g, want⟩ := gw
            have hy : yielded ops a'.tmps g = yielded ops a.tmps g := by
              unfold yielded
              cases htt : (ops[g]?).bind (·.dst) with
              | none => rfl
              | some t =>
                have h5 := hlook t (by simp [Oper.looksAt, hg, htt])
                simp only [Option.bind_some, h5]
            simp only [hy]
        simp only [hn, Bool.not_true, Bool.false_or, hwe, hw, he] at hall
        exact hall
      · revert hn hk
        generalize ops[i].op = op
        intro hk hn
        cases op <;> first | rfl | (exfalso; revert hn; simp [needDyn]; done) | skip
        case call c =>
          obtain ⟨callee, args, argTypes⟩ := c
          cases callee with
          | builtin b => cases b <;> first | rfl | (exfalso; revert hn; simp [needDyn]; done)
          | value f => rfl
          | invoke r m => rfl
    · have h2 := wpOp_mono (fun a' w' h' => And.intro h'.1 (wpC_of_wpF l a' w' (fun k hk => hl k (List.mem_cons_of_mem _ hk)) hlate.2 h'.2)) h
      unfold wpOp at h2 ⊢
      simp only [ho] at h2 ⊢
      split
      · rename_i hw
        simp only [hw, if_true] at h2
        rcases h2 with h2 | ⟨_, a0, w0, hq⟩
        case inr => exact absurd hq (hno _ _)
        refine .inl ?_
        unfold Oper.wp at *
        generalize (execOp a.eval ops[i]).run P w = r at *
        cases r with
        | ok n w' =>
          cases n <;> (try simp only [Oper.upon] at h2 ⊢) <;> try exact h2
          case enter f args =>
            refine Calls.mono h2 fun e w'' he => ?_
            cases e with
            | returned u => exact he
            | panicked c => exact absurd he (hnp _ _ _)
            | outgrown =>
              obtain ⟨a0, w0, hq⟩ := he
              exact absurd hq (hno _ _)
        | halt x w' =>
          cases x <;> (try simp only [Oper.upon] at h2 ⊢) <;> try exact h2
          exact absurd h2 (hnp _ _ _)
      · rename_i hw
        simp only [hw] at h2
        exact h2

/-- The operations of a list of numbers. -/
def pickOps (ops : Array Oper) : List Nat → List Oper
  | [] => []
  | i :: l => match ops[i]? with
    | some o => o :: pickOps ops l
    | none => pickOps ops l

/-- Stretches of the fixed order; a stretch that bears a mark is one operation that turns no old block. -/
def wpSegs (P : Program) (ops : Array Oper) (Q : Exit → Act → World → Prop) : List (Bool × List Nat) → Act → World → Prop
  | [], a, w => Q .normal a w
  | (b, l) :: rest, a, w => wpList P ops (fun e a' w' => e = .normal ∧ (b = true → Ext w w') ∧ wpSegs P ops Q rest a' w') (pickOps ops l) a w
def flags (segs : List (Bool × List Nat)) (i : Nat) : Bool := segs.any fun s => s.1 && s.2.contains i
def segsOk (segs : List (Bool × List Nat)) : Bool := segs.all (fun s => !s.1 || s.2.length == 1) && segs.all fun s => s.1 || s.2.all fun i => !flags segs i

theorem wpF_of_list {R : Act → World → Prop} {rest : List Nat} : ∀ (l : List Nat) (a : Act) (w : World), (∀ k ∈ l, fl k = false) → (∀ k ∈ l, k < ops.size) → (∀ a w, R a w → wpF fl P ops (Only ops Q) rest a w) →
    wpList P ops (fun e a' w' => e = .normal ∧ R a' w') (pickOps ops l) a w → wpF fl P ops (Only ops Q) (l ++ rest) a w
  | [], a, w, _, _, hR, h => hR _ _ h.2
  | i :: l, a, w, hf, hl, hR, h => by
    have hlt := hl i List.mem_cons_self
    have ho : ops[i]? = some ops[i] := Array.getElem?_eq_getElem hlt
    simp only [pickOps, ho] at h
    have mono : ∀ a w, wpList P ops (fun e a' w' => e = .normal ∧ R a' w') (pickOps ops l) a w → wpF fl P ops (Only ops Q) (l ++ rest) a w := fun a w h =>
      wpF_of_list l a w (fun k hk => hf k (List.mem_cons_of_mem _ hk)) (fun k hk => hl k (List.mem_cons_of_mem _ hk)) hR h
    show wpOp P ops (Only ops Q) i _ a w
    unfold wpOp
    simp only [ho]
    unfold wpList at h
    split
    · rename_i hw
      simp only [hw, if_true] at h
      rcases h with h | ⟨_, a0, w0, hq⟩
      case inr => cases hq.1
      refine .inl ?_
      unfold Oper.wp at *
      generalize (execOp a.eval ops[i]).run P w = r at *
      have hfi : fl i = false := hf i List.mem_cons_self
      have go : ∀ w0 a w, wpList P ops (fun e a' w' => e = .normal ∧ R a' w') (pickOps ops l) a w → ((fl i = true → Ext w0 w) ∧ wpF fl P ops (Only ops Q) (l ++ rest) a w) := fun w0 a w h => ⟨fun e => (by rw [hfi] at e; cases e), mono a w h⟩
      cases r with
      | ok n w' =>
        cases n <;> (try simp only [Oper.upon] at h ⊢) <;> first | exact go _ _ _ h | exact h | skip
        case enter f args =>
          refine Calls.mono h fun e w'' he => ?_
          cases e with
          | returned u => exact go _ _ _ he
          | panicked c => cases he.1
          | outgrown =>
            obtain ⟨a0, w0, hq⟩ := he
            cases hq.1
        case row row args => exact Rows.mono h fun u w'' he => go _ _ _ he
      | halt x w' =>
        cases x <;> (try simp only [Oper.upon] at h ⊢) <;> first | exact h | skip
        cases h.1
    · rename_i hw
      simp only [hw] at h
      exact ⟨fun e => (by rw [hf i List.mem_cons_self] at e; cases e), mono _ _ h⟩

theorem wpF_of_one {R : Act → World → Prop} {rest : List Nat} {i : Nat} {a : Act} {w : World} (hl : i < ops.size) (hR : ∀ a w, R a w → wpF fl P ops (Only ops Q) rest a w)
    (h : wpList P ops (fun e a' w' => e = .normal ∧ Ext w w' ∧ R a' w') (pickOps ops [i]) a w) : wpF fl P ops (Only ops Q) (i :: rest) a w := by
  have ho : ops[i]? = some ops[i] := Array.getElem?_eq_getElem hl
  simp only [pickOps, ho] at h
  show wpOp P ops (Only ops Q) i _ a w
  unfold wpOp
  simp only [ho]
  unfold wpList at h
  have go : ∀ a1 w1, wpList P ops (fun e a' w' => e = .normal ∧ Ext w w' ∧ R a' w') [] a1 w1 → ((fl i = true → Ext w w1) ∧ wpF fl P ops (Only ops Q) rest a1 w1) := fun a1 w1 h => ⟨fun _ => h.2.1, hR _ _ h.2.2⟩
  split
  · rename_i hw
    simp only [hw, if_true] at h
    rcases h with h | ⟨_, a0, w0, hq⟩
    case inr => cases hq.1
    refine .inl ?_
    unfold Oper.wp at *
    generalize (execOp a.eval ops[i]).run P w = r at *
    cases r with
    | ok n w' =>
      cases n <;> (try simp only [Oper.upon] at h ⊢) <;> first | exact go _ _ h | exact h | skip
      case enter f args =>
        refine Calls.mono h fun e w'' he => ?_
        cases e with
        | returned u => exact go _ _ he
        | panicked c => cases he.1
        | outgrown =>
          obtain ⟨a0, w0, hq⟩ := he
          cases hq.1
      case row row args => exact Rows.mono h fun u w'' he => go _ _ he
    | halt x w' =>
      cases x <;> (try simp only [Oper.upon] at h ⊢) <;> first | exact h | skip
      cases h.1
  · rename_i hw
    simp only [hw] at h
    exact go _ _ h

theorem wpF_of_segs (F : Nat → Bool) : ∀ (segs : List (Bool × List Nat)) (a : Act) (w : World), (∀ s ∈ segs, s.1 = true → s.2.length = 1) → (∀ s ∈ segs, s.1 = false → ∀ i ∈ s.2, F i = false) → (∀ s ∈ segs, ∀ i ∈ s.2, i < ops.size) →
    wpSegs P ops (Only ops Q) segs a w → wpF F P ops (Only ops Q) (segs.flatMap (·.2)) a w
  | [], a, w, _, _, _, h => h
  | (b, l) :: rest, a, w, h1, h2, h3, h => by
    have ih := fun a w => wpF_of_segs F rest a w (fun s hs => h1 s (List.mem_cons_of_mem _ hs)) (fun s hs => h2 s (List.mem_cons_of_mem _ hs)) (fun s hs => h3 s (List.mem_cons_of_mem _ hs))
    simp only [List.flatMap_cons]
    cases b with
    | false =>
      refine wpF_of_list (R := fun a' w' => (false = true → Ext w w') ∧ wpSegs P ops (Only ops Q) rest a' w') l a w (h2 _ List.mem_cons_self rfl) (h3 _ List.mem_cons_self) (fun a w h => ih a w h.2) h
    | true =>
      obtain ⟨i, rfl⟩ := List.length_eq_one_iff.1 (h1 _ List.mem_cons_self rfl)
      refine wpF_of_one (R := fun a' w' => wpSegs P ops (Only ops Q) rest a' w') (h3 _ List.mem_cons_self i (by simp)) (fun a w h => ih a w h) ?_
      simpa [wpSegs] using h

/-- **A REGION WHOSE ORDER IS OPEN**: one fixed order of its operations (reckonings and reads first) serves for all. -/
theorem wp_region_segs {id : Nat} {a : Act} {w : World} (hm : P.follows .mixedOrders = true) (segs : List (Bool × List Nat)) (hs : segsOk segs = true) (hok : canonB (flags segs) P ops (segs.flatMap (·.2)) = true)
    (h : wpSegs P ops (Only ops Q) segs a w.drew) : (Code.region id ops true).wp P Q a w := by
  simp only [canonB, Bool.and_eq_true] at hok
  obtain ⟨⟨⟨⟨⟨⟨⟨⟨hsel, hall⟩, hlt⟩, hnd⟩, hop⟩, hself⟩, hord⟩, hsw⟩, hlate⟩ := hok
  generalize hF : flags segs = F at *
  simp only [segsOk, Bool.and_eq_true] at hs
  have hs1 : ∀ s ∈ segs, s.1 = true → s.2.length = 1 := fun s hm h1 => by
    have := List.all_eq_true.1 hs.1 s hm
    simpa [h1] using this
  have hs2 : ∀ s ∈ segs, s.1 = false → ∀ i ∈ s.2, F i = false := fun s hm h1 i hi => by
    have := List.all_eq_true.1 hs.2 s hm
    simp only [h1, Bool.false_or] at this
    have := List.all_eq_true.1 this i hi
    rw [hF] at this
    simpa using this
  have hlt' : ∀ k ∈ segs.flatMap (·.2), k < ops.size := fun k hk => by have := List.all_eq_true.1 hlt k hk; simpa using this
  have hs3 : ∀ s ∈ segs, ∀ i ∈ s.2, i < ops.size := fun s hm i hi => hlt' i (List.mem_flatMap.2 ⟨s, hm, hi⟩)
  have h0 := wpF_of_segs F segs a w.drew hs1 hs2 hs3 h
  generalize segs.flatMap (·.2) = ord at *
  have hmem : ∀ k, k < ops.size → k ∈ ord := fun k hk => by have := List.all_eq_true.1 hall k (by simpa using hk); simpa using this
  have hok1 : ∀ o ∈ ops, opKind o.op = 0 → opOk P o.op = true := fun o ho hk => by
    have := Array.all_eq_true_iff_forall_mem.1 hop o ho
    simp only [Bool.and_eq_true, Bool.or_eq_true] at this
    rcases this.1 with h1 | h1
    · simp [hk] at h1
    · exact h1
  have hinR : ∀ (k : Nat) (o : Oper), ops[k]? = some o → ∀ e ∈ o.after, Region.binds .any e = true → e.on < ops.size := fun k o ho e he hb => by
    have := Array.all_eq_true_iff_forall_mem.1 hop o (Array.mem_of_getElem? ho)
    simp only [Bool.and_eq_true] at this
    have h1 := List.all_eq_true.1 this.2 e (by simpa using he)
    simpa [hb] using h1
  have hL : Left F P ops ord (Array.replicate ops.size false) := by
    refine ⟨by simp, hlt', fun k hk => ?_, pairB_iff.1 hnd, pairB_iff.1 hord, fun x hx => List.all_eq_true.1 hself x hx, pairB_iff.1 hsw, fun k o ho hk => ?_, hinR⟩
    · simp [hk, hmem k hk]
    · exact absurd (hmem k (Array.getElem?_eq_some_iff.1 ho).1) hk
  have hlen : ord.length = ops.size := by
    have hnd' : ord.Nodup := (pairB_iff.1 hnd).imp (fun h => by simpa using h)
    have h1 : ord.Perm (List.range ops.size) := (List.perm_ext_iff_of_nodup hnd' List.nodup_range).2 fun k => by
      simp only [List.mem_range]
      exact ⟨hlt' k, hmem k⟩
    simpa using h1.length_eq
  have h1 := wpC_of_wpF ord a w.drew hlt' hlate h0
  have h2 := wpAny_of_wpC hsel hok1 (fun c a w hq => by cases hq.1) (fun a w hq => by cases hq.1) ops.size ord _ a w.drew hlen hL h1
  exact Code.wp_mono (fun e a w hq => by rw [hq.1]; exact hq.2) (wp_region_any hm h2)
end
end Go.Proofs.Cab

/- joined: what is kept of two sets. -/
set_option linter.unusedVariables false
set_option linter.unusedSimpArgs false
namespace Go.Proofs.Ytpbdlkbiiglkdaa
open Go.RowKit Go.Proofs.YtpbdlkbiiglkdaaW.PrintWords Go.Proofs.YtpbdlkbiiglkdaaW.PrintLast Go.Proofs.YtpbdlkbiiglkdaaW.PrintMore Go.Proofs.Cab

/-- What is kept of two lists in ascending order. -/
def joinF (f : Bool → Bool → Bool) : List Int → List Int → List Int
  | [], [] => []
  | x :: xs, [] => (if f true false then [x] else []) ++ joinF f xs []
  | [], y :: ys => (if f false true then [y] else []) ++ joinF f [] ys
  | x :: xs, y :: ys =>
    if x < y then (if f true false then [x] else []) ++ joinF f xs (y :: ys)
    else if y < x then (if f false true then [y] else []) ++ joinF f (x :: xs) ys
    else (if f true true then [x] else []) ++ joinF f xs ys
termination_by xs ys => xs.length + ys.length

theorem joinF_length (f : Bool → Bool → Bool) : ∀ (n : Nat) (xs ys : List Int), xs.length + ys.length = n → (joinF f xs ys).length ≤ n := by
  intro n
  induction n using Nat.strongRecOn with
  | _ n ih =>
    intro xs ys hn
    have one : ∀ (b : Bool) (x : Int), (if b then [x] else []).length ≤ 1 := fun b x => by cases b <;> simp
    cases xs with
    | nil =>
      cases ys with
      | nil => simp [joinF]
      | cons y ys =>
        simp only [joinF, List.length_append]
        have := ih (n - 1) (by simp at hn; omega) [] ys (by simp at hn ⊢; omega)
        have := one (f false true) y
        simp at hn
        omega
    | cons x xs =>
      cases ys with
      | nil =>
        simp only [joinF, List.length_append]
        have := ih (n - 1) (by simp at hn; omega) xs [] (by simp at hn ⊢; omega)
        have := one (f true false) x
        simp at hn
        omega
      | cons y ys =>
        simp only [joinF]
        split
        · rw [List.length_append]
          have := ih (n - 1) (by simp at hn; omega) xs (y :: ys) (by simp at hn ⊢; omega)
          have := one (f true false) x
          simp at hn
          omega
        · split
          · rw [List.length_append]
            have := ih (n - 1) (by simp at hn; omega) (x :: xs) ys (by simp at hn ⊢; omega)
            have := one (f false true) y
            simp at hn
            omega
          · rw [List.length_append]
            have := ih (n - 2) (by simp at hn; omega) xs ys (by simp at hn ⊢; omega)
            have := one (f true true) x
            simp at hn
            omega

theorem joinF_gt (f : Bool → Bool → Bool) {x y : Int} {xs ys : List Int} (h : y < x) : joinF f (x :: xs) (y :: ys) = (if f false true then [y] else []) ++ joinF f (x :: xs) ys := by
  rw [joinF, if_neg (by omega), if_pos h]
theorem info3 : (Try.prog.info? 3).map (fun i => (i.zero, i.size, i.bytes)) = some (some (.int .i64 0), 1, 8) := by kernel_rfl

theorem add0 (a : Addr) : a.add (Int.toNat 0) = a := by simp [Addr.add]
theorem cut1 {w : World} {ad : Addr} {c : Nat} {x : Int} {xs : List Int} (h : Kd.C (Kd.int .i64) w (some ad) (xs.length + 1) (x :: xs)) (hc : xs.length + 1 ≤ c) :
    ∃ A' : Option Addr, (∀ W : World, (Instr.slice 22 (.slice (some ad) (xs.length + 1) c) (some (.int .i64 1)) none none).run Try.prog W = .ok (.slice A' xs.length (c - 1)) W) ∧
      Kd.C (Kd.int .i64) w A' xs.length xs ∧ xs.length ≤ c - 1 := by
  obtain ⟨i0, hi, hz⟩ := Option.map_eq_some_iff.1 info3
  simp only [Prod.mk.injEq] at hz
  refine ⟨_, fun W => by simpa using cut_from (P := Try.prog) 22 3 .i64 Try.underlying22 hi 1 hz.2.1 (some ad) (xs.length + 1) c 1 (by omega) (by omega) W, ?_, by omega⟩
  have := Kd.C_drop (k := Kd.int .i64) (m := 1) (c := c) (xs := x :: xs) (w := w) (A := some ad) (by simpa using h) (by simp) (by simpa using hc)
  simpa [Kd.int, Kd.scalar] using this

section
variable {ops : Array Oper} {rest : List Oper} {o : Oper} {a : Act} {Q : Exit → Act → World → Prop}
/-- append(v, y) on a row of ints of the call's own. -/
theorem app1 {w0 W : World} (base : Nat) (hgd : o.guard = none) (s x : Operand) (ho : o.op = .call { callee := .builtin .append, args := #[s, x], argTypes := #[22, 22] })
    (v : Value) (xs : List Int) (y : Int) (hs : a.eval s = v) (hx : a.eval x = .slice (some ⟨W.heap.size, 0, none⟩) 1 1) (HO : Kd.R (Kd.int .i64) 3 W base (fun _ => True) v xs) (HB : Below base w0 W) (hbase : base ≤ W.heap.size) (hl : xs.length < 17592186044416)
    (h : ∀ v1 w1, Kd.R (Kd.int .i64) 3 w1 base (fun _ => True) v1 (xs ++ [y]) → Below base w0 w1 → wpList Try.prog ops Q rest (a.put o.dst v1) w1) :
    wpList Try.prog ops Q (o :: rest) a (W.alloc (.cells #[.int .i64 y] 3)) :=
  Kd.R_append (Kd.int .i64) (w0 := w0) base hgd s x 22 3 (.int .i64 0) 8 ho Try.underlying22 info3 rfl (by decide) (by omega) v xs y [.int .i64 y] (fun _ => True) (fun _ => False) hs hx rfl (fun _ hk => hk.elim) (fun _ _ => trivial) HO HB hbase (by omega)
    fun v1 w1 ho hb _ _ => h v1 w1 ho hb
end

set_option maxHeartbeats 4000000 in
set_option maxRecDepth 100000 in
theorem joined_calls (g : FuncId) (f : Bool → Bool → Bool) (hE : ∀ args W, (callFunc g args).run Try.prog W = .ok (.enter g args) W)
    (HG : ∀ x y W, Calls Try.prog g #[.bool x, .bool y] W fun e W' => e = .returned (.bool (f x y)) ∧ W = W') (A0 : Option Addr) (c0 : Nat) (l0 : List Int) (A1 : Option Addr) (c1 : Nat) (l1 : List Int) (w : World)
    (hr0 : Kd.C (Kd.int .i64) w A0 l0.length l0) (hc0 : l0.length ≤ c0) (hr1 : Kd.C (Kd.int .i64) w A1 l1.length l1) (hc1 : l1.length ≤ c1) (hn0 : l0.length ≤ 3000) (hn1 : l1.length ≤ 3000) :
    Calls Try.prog 49 #[.slice A0 l0.length c0, .slice A1 l1.length c1, .func (.func g) #[] #[]] w fun e w' => ∃ v0_ : Value, e = .returned v0_ ∧ Kd.R (Kd.int .i64) 3 w' w.heap.size (fun _ => True) v0_ (joinF f l0 l1) ∧ Below w.heap.size w w' := by
  have HR0 := Aside0.mk hr0
  have HC0 := Aside0.mk hc0
  have HR1 := Aside0.mk hr1
  have HC1 := Aside0.mk hc1
  clear hr0 hc0 hr1 hc1
  have HG' := Aside0.mk HG
  clear HG
  have HB := Aside0.mk (Below.refl w.heap.size w)
  go_enter Try.func49, Try.ntmps49
  go_wp2
  go_loopg [0, 1, 7] (l0.length + l1.length) (fun n v0 v1 v7 w' => ∃ (A c : _) (xs : List Int) (B d : _) (ys out : List Int), v0 = .slice A xs.length c ∧ v1 = .slice B ys.length d ∧ Aside0 (xs.length + ys.length = n) ∧ Aside0 (out ++ joinF f xs ys = joinF f l0 l1) ∧ Aside0 (out.length + xs.length + ys.length ≤ 6000) ∧
    Aside0 (Kd.C (Kd.int .i64) w A xs.length xs ∧ xs.length ≤ c ∧ Kd.C (Kd.int .i64) w B ys.length ys ∧ ys.length ≤ d) ∧ Aside0 (Kd.R (Kd.int .i64) 3 w' w.heap.size (fun _ => True) v7 out) ∧ Aside0 (Below w.heap.size w w'))
  case atStart => exact ⟨A0, c0, l0, A1, c1, l1, [], rfl, rfl, ⟨rfl⟩, ⟨rfl⟩, ⟨by simp; omega⟩, ⟨HR0.out, HC0.out, HR1.out, HC1.out⟩, ⟨Kd.R_nil _ _ _ _ _⟩, HB⟩
  case round =>
    clear HB
    obtain ⟨A, c, xs, B, d, ys, out, rfl, rfl, hn', HE, HL, HX, HO, HB⟩ := hrel
    cases xs with
    | nil =>
      cases ys with
      | nil =>
        go_wp2
        go_ret
        refine ⟨_, rfl, ?_, HB.out⟩
        have := HE.out
        simp [joinF] at this
        rw [← this]
        exact HO.out
      | cons y ys =>
        obtain ⟨hx1, hx2, hx3, hx4⟩ := HX.out
        obtain ⟨ad, rfl, hcell⟩ := Kd.at_int hx3 0 (by omega) (by simp)
        have hcell : wr.cell? ad = some (.int .i64 y) := by rw [← add0 ad]; exact (HB.out.cell (World.block_lt_of_cell? w _ hcell)).trans hcell
        obtain ⟨B', hcut, hB', hd'⟩ := cut1 hx3 hx4
        have HX' := Aside0.mk (And.intro hx1 (And.intro hx2 (And.intro hB' hd')))
        clear hB' hd' hx1 hx2 hx3 hx4 HX
        have hz : ((ys.length : Int) + 1 == 0) = false := by simp; omega
        cases hf : f false true
        · have HF := Aside0.mk hf
          clear hf
          go_wp2
          refine wp_region_segs (by kernel_rfl) [(false, [0, 1, 2, 3, 4, 5, 6, 7, 8, 9, 11, 12, 10, 13, 14, 15, 16, 17])] (by decide) (by kernel_rfl) ?_
          simp only [wpSegs, pickOps, List.getElem?_toArray, List.getElem?_cons_succ, List.getElem?_cons_zero, Bool.false_eq_true, false_implies, true_and, forall_const]
          go_wp2
          refine ⟨rfl, by kernel_rfl, ?_⟩
          go_wp2
          refine wp_region_segs (by kernel_rfl) [(false, [0, 1, 2, 3, 4, 5, 6, 7, 8, 9, 11, 12, 10, 13, 14, 15, 16, 17])] (by decide) (by kernel_rfl) ?_
          simp only [wpSegs, pickOps, List.getElem?_toArray, List.getElem?_cons_succ, List.getElem?_cons_zero, Bool.false_eq_true, false_implies, true_and, forall_const]
          go_wp2
          refine ⟨rfl, by kernel_rfl, ?_⟩
          go_wp2_with fail
          refine (HG'.out _ _ _).mono ?_
          rintro e w' ⟨rfl, rfl⟩
          simp only [HF.out]
          go_wp2
          go_roundg (gk - 1)
          case measure => have := hn'.out; simp at this; omega
          case rel => exact ⟨A, c, [], B', d - 1, ys, out, rfl, rfl, ⟨by have := hn'.out; simp at this ⊢; omega⟩, ⟨by rw [← HE.out]; simp [joinF, HF.out]⟩, ⟨by have := HL.out; simp at this ⊢; omega⟩, HX', ⟨Kd.R_drew (Kd.R_drew HO.out)⟩, ⟨below_drew1 (below_drew1 HB.out)⟩⟩
        · have HF := Aside0.mk hf
          clear hf
          go_wp2
          refine wp_region_segs (by kernel_rfl) [(false, [0, 1, 2, 3, 4, 5, 6, 7, 8, 9, 11, 12, 10, 13, 14, 15, 16, 17])] (by decide) (by kernel_rfl) ?_
          simp only [wpSegs, pickOps, List.getElem?_toArray, List.getElem?_cons_succ, List.getElem?_cons_zero, Bool.false_eq_true, false_implies, true_and, forall_const]
          go_wp2
          refine ⟨rfl, by kernel_rfl, ?_⟩
          go_wp2
          refine wp_region_segs (by kernel_rfl) [(false, [0, 1, 2, 3, 4, 5, 6, 7, 8, 9, 11, 12, 10, 13, 14, 15, 16, 17])] (by decide) (by kernel_rfl) ?_
          simp only [wpSegs, pickOps, List.getElem?_toArray, List.getElem?_cons_succ, List.getElem?_cons_zero, Bool.false_eq_true, false_implies, true_and, forall_const]
          go_wp2
          refine ⟨rfl, by kernel_rfl, ?_⟩
          go_wp2_with fail
          refine (HG'.out _ _ _).mono ?_
          rintro e w' ⟨rfl, rfl⟩
          simp only [HF.out]
          go_wp2_with (at_builtin; refine app1 (w0 := w) w.heap.size rfl _ _ rfl u7 out y rfl rfl ((Kd.R_drew (Kd.R_drew HO.out))) (below_drew1 (below_drew1 HB.out)) (below_size (below_drew1 (below_drew1 HB.out))) (by have := HL.out; omega) ?_; intro v1 w1 ho hb; have HO1 := Aside0.mk ho; have HB1 := Aside0.mk hb; clear ho hb)
          go_roundg (gk - 1)
          case measure => have := hn'.out; simp at this; omega
          case rel => exact ⟨A, c, [], B', d - 1, ys, out ++ [y], rfl, rfl, ⟨by have := hn'.out; simp at this ⊢; omega⟩, ⟨by rw [← HE.out]; simp [joinF, HF.out]⟩, ⟨by have := HL.out; simp at this ⊢; omega⟩, HX', HO1, HB1⟩
    | cons x xs =>
      cases ys with
      | nil =>
        obtain ⟨hx1, hx2, hx3, hx4⟩ := HX.out
        obtain ⟨ad, rfl, hcell⟩ := Kd.at_int hx1 0 (by omega) (by simp)
        have hcell : wr.cell? ad = some (.int .i64 x) := by rw [← add0 ad]; exact (HB.out.cell (World.block_lt_of_cell? w _ hcell)).trans hcell
        obtain ⟨B', hcut, hB', hd'⟩ := cut1 hx1 hx2
        have HX' := Aside0.mk (And.intro hB' (And.intro hd' (And.intro hx3 hx4)))
        clear hB' hd' hx1 hx2 hx3 hx4 HX
        have hz : ((xs.length : Int) + 1 == 0) = false := by simp; omega
        cases hf : f true false
        · have HF := Aside0.mk hf
          clear hf
          go_wp2
          refine wp_region_segs (by kernel_rfl) [(false, [0, 1, 2, 3, 4, 5, 6, 7, 8, 9, 11, 12, 10, 13, 14, 15, 16, 17])] (by decide) (by kernel_rfl) ?_
          simp only [wpSegs, pickOps, List.getElem?_toArray, List.getElem?_cons_succ, List.getElem?_cons_zero, Bool.false_eq_true, false_implies, true_and, forall_const]
          go_wp2
          refine ⟨rfl, by kernel_rfl, ?_⟩
          go_wp2
          refine wp_region_segs (by kernel_rfl) [(false, [0, 1, 2, 3, 4, 5, 6, 7, 8, 9, 11, 12, 10, 13, 14, 15, 16, 17])] (by decide) (by kernel_rfl) ?_
          simp only [wpSegs, pickOps, List.getElem?_toArray, List.getElem?_cons_succ, List.getElem?_cons_zero, Bool.false_eq_true, false_implies, true_and, forall_const]
          go_wp2
          refine ⟨rfl, by kernel_rfl, ?_⟩
          go_wp2_with fail
          refine (HG'.out _ _ _).mono ?_
          rintro e w' ⟨rfl, rfl⟩
          simp only [HF.out]
          go_wp2
          go_roundg (gk - 1)
          case measure => have := hn'.out; simp at this; omega
          case rel => exact ⟨B', c - 1, xs, B, d, [], out, rfl, rfl, ⟨by have := hn'.out; simp at this ⊢; omega⟩, ⟨by rw [← HE.out]; simp [joinF, HF.out]⟩, ⟨by have := HL.out; simp at this ⊢; omega⟩, HX', ⟨Kd.R_drew (Kd.R_drew HO.out)⟩, ⟨below_drew1 (below_drew1 HB.out)⟩⟩
        · have HF := Aside0.mk hf
          clear hf
          go_wp2
          refine wp_region_segs (by kernel_rfl) [(false, [0, 1, 2, 3, 4, 5, 6, 7, 8, 9, 11, 12, 10, 13, 14, 15, 16, 17])] (by decide) (by kernel_rfl) ?_
          simp only [wpSegs, pickOps, List.getElem?_toArray, List.getElem?_cons_succ, List.getElem?_cons_zero, Bool.false_eq_true, false_implies, true_and, forall_const]
          go_wp2
          refine ⟨rfl, by kernel_rfl, ?_⟩
          go_wp2
          refine wp_region_segs (by kernel_rfl) [(false, [0, 1, 2, 3, 4, 5, 6, 7, 8, 9, 11, 12, 10, 13, 14, 15, 16, 17])] (by decide) (by kernel_rfl) ?_
          simp only [wpSegs, pickOps, List.getElem?_toArray, List.getElem?_cons_succ, List.getElem?_cons_zero, Bool.false_eq_true, false_implies, true_and, forall_const]
          go_wp2
          refine ⟨rfl, by kernel_rfl, ?_⟩
          go_wp2_with fail
          refine (HG'.out _ _ _).mono ?_
          rintro e w' ⟨rfl, rfl⟩
          simp only [HF.out]
          go_wp2_with (at_builtin; refine app1 (w0 := w) w.heap.size rfl _ _ rfl u7 out x rfl rfl ((Kd.R_drew (Kd.R_drew HO.out))) (below_drew1 (below_drew1 HB.out)) (below_size (below_drew1 (below_drew1 HB.out))) (by have := HL.out; omega) ?_; intro v1 w1 ho hb; have HO1 := Aside0.mk ho; have HB1 := Aside0.mk hb; clear ho hb)
          go_roundg (gk - 1)
          case measure => have := hn'.out; simp at this; omega
          case rel => exact ⟨B', c - 1, xs, B, d, [], out ++ [x], rfl, rfl, ⟨by have := hn'.out; simp at this ⊢; omega⟩, ⟨by rw [← HE.out]; simp [joinF, HF.out]⟩, ⟨by have := HL.out; simp at this ⊢; omega⟩, HX', HO1, HB1⟩
      | cons y ys =>
        obtain ⟨hx1, hx2, hx3, hx4⟩ := HX.out
        obtain ⟨ad, rfl, hcell⟩ := Kd.at_int hx1 0 (by omega) (by simp)
        have hcell : wr.cell? ad = some (.int .i64 x) := by rw [← add0 ad]; exact (HB.out.cell (World.block_lt_of_cell? w _ hcell)).trans hcell
        obtain ⟨ad2, rfl, hcell2⟩ := Kd.at_int hx3 0 (by omega) (by simp)
        have hcell2 : wr.cell? ad2 = some (.int .i64 y) := by rw [← add0 ad2]; exact (HB.out.cell (World.block_lt_of_cell? w _ hcell2)).trans hcell2
        obtain ⟨A', hcut, hA', hc'⟩ := cut1 hx1 hx2
        obtain ⟨B', hcut2, hB', hd'⟩ := cut1 hx3 hx4
        have HX' := Aside0.mk (And.intro (And.intro hA' hc') (And.intro hB' hd'))
        clear hB' hd' hA' hc' hx1 hx2 hx3 hx4
        have hz : ((xs.length : Int) + 1 == 0) = false := by simp; omega
        have hz2 : ((ys.length : Int) + 1 == 0) = false := by simp; omega
        by_cases hxy : x < y
        · have h1 : decide (x ≤ y) = true := by simp; omega
          have h2 : decide (y ≤ x) = false := by simp; omega
          have HXY := Aside0.mk hxy
          clear hxy
          cases hf : f true false
          · have HF := Aside0.mk hf
            clear hf
            go_wp2
            refine wp_region_segs (by kernel_rfl) [(false, [0, 1, 2, 3, 4, 5, 6, 7, 8, 9, 11, 12, 10, 13, 14, 15, 16, 17])] (by decide) (by kernel_rfl) ?_
            simp only [wpSegs, pickOps, List.getElem?_toArray, List.getElem?_cons_succ, List.getElem?_cons_zero, Bool.false_eq_true, false_implies, true_and, forall_const]
            go_wp2
            refine ⟨rfl, by kernel_rfl, ?_⟩
            go_wp2
            refine wp_region_segs (by kernel_rfl) [(false, [0, 1, 2, 3, 4, 5, 6, 7, 8, 9, 11, 12, 10, 13, 14, 15, 16, 17])] (by decide) (by kernel_rfl) ?_
            simp only [wpSegs, pickOps, List.getElem?_toArray, List.getElem?_cons_succ, List.getElem?_cons_zero, Bool.false_eq_true, false_implies, true_and, forall_const]
            go_wp2
            refine ⟨rfl, by kernel_rfl, ?_⟩
            go_wp2_with fail
            refine (HG'.out _ _ _).mono ?_
            rintro e w' ⟨rfl, rfl⟩
            simp only [HF.out]
            go_wp2
            go_roundg (gk - 1)
            case measure => have := hn'.out; simp at this; omega
            case rel => exact ⟨A', c - 1, xs, some ad2, d, y :: ys, out, rfl, rfl, ⟨by have := hn'.out; simp at this ⊢; omega⟩, ⟨by rw [← HE.out]; simp [joinF, HF.out, HXY.out]⟩, ⟨by have := HL.out; simp at this ⊢; omega⟩, ⟨HX'.out.1.1, HX'.out.1.2, HX.out.2.2.1, HX.out.2.2.2⟩, ⟨Kd.R_drew (Kd.R_drew HO.out)⟩, ⟨below_drew1 (below_drew1 HB.out)⟩⟩
          · have HF := Aside0.mk hf
            clear hf
            go_wp2
            refine wp_region_segs (by kernel_rfl) [(false, [0, 1, 2, 3, 4, 5, 6, 7, 8, 9, 11, 12, 10, 13, 14, 15, 16, 17])] (by decide) (by kernel_rfl) ?_
            simp only [wpSegs, pickOps, List.getElem?_toArray, List.getElem?_cons_succ, List.getElem?_cons_zero, Bool.false_eq_true, false_implies, true_and, forall_const]
            go_wp2
            refine ⟨rfl, by kernel_rfl, ?_⟩
            go_wp2
            refine wp_region_segs (by kernel_rfl) [(false, [0, 1, 2, 3, 4, 5, 6, 7, 8, 9, 11, 12, 10, 13, 14, 15, 16, 17])] (by decide) (by kernel_rfl) ?_
            simp only [wpSegs, pickOps, List.getElem?_toArray, List.getElem?_cons_succ, List.getElem?_cons_zero, Bool.false_eq_true, false_implies, true_and, forall_const]
            go_wp2
            refine ⟨rfl, by kernel_rfl, ?_⟩
            go_wp2_with fail
            refine (HG'.out _ _ _).mono ?_
            rintro e w' ⟨rfl, rfl⟩
            simp only [HF.out]
            go_wp2_with (at_builtin; refine app1 (w0 := w) w.heap.size rfl _ _ rfl u7 out x rfl rfl ((Kd.R_drew (Kd.R_drew HO.out))) (below_drew1 (below_drew1 HB.out)) (below_size (below_drew1 (below_drew1 HB.out))) (by have := HL.out; omega) ?_; intro v1 w1 ho hb; have HO1 := Aside0.mk ho; have HB1 := Aside0.mk hb; clear ho hb)
            go_roundg (gk - 1)
            case measure => have := hn'.out; simp at this; omega
            case rel => exact ⟨A', c - 1, xs, some ad2, d, y :: ys, out ++ [x], rfl, rfl, ⟨by have := hn'.out; simp at this ⊢; omega⟩, ⟨by rw [← HE.out]; simp [joinF, HF.out, HXY.out]⟩, ⟨by have := HL.out; simp at this ⊢; omega⟩, ⟨HX'.out.1.1, HX'.out.1.2, HX.out.2.2.1, HX.out.2.2.2⟩, HO1, HB1⟩
        · by_cases hyx : y < x
          · have h1 : decide (x ≤ y) = false := by simp; omega
            have h2 : decide (y ≤ x) = true := by simp; omega
            have HXY := Aside0.mk (And.intro hxy hyx)
            clear hxy hyx
            cases hf : f false true
            · have HF := Aside0.mk hf
              clear hf
              go_wp2
              refine wp_region_segs (by kernel_rfl) [(false, [0, 1, 2, 3, 4, 5, 6, 7, 8, 9, 11, 12, 10, 13, 14, 15, 16, 17])] (by decide) (by kernel_rfl) ?_
              simp only [wpSegs, pickOps, List.getElem?_toArray, List.getElem?_cons_succ, List.getElem?_cons_zero, Bool.false_eq_true, false_implies, true_and, forall_const]
              go_wp2
              refine ⟨rfl, by kernel_rfl, ?_⟩
              go_wp2
              refine wp_region_segs (by kernel_rfl) [(false, [0, 1, 2, 3, 4, 5, 6, 7, 8, 9, 11, 12, 10, 13, 14, 15, 16, 17])] (by decide) (by kernel_rfl) ?_
              simp only [wpSegs, pickOps, List.getElem?_toArray, List.getElem?_cons_succ, List.getElem?_cons_zero, Bool.false_eq_true, false_implies, true_and, forall_const]
              go_wp2
              refine ⟨rfl, by kernel_rfl, ?_⟩
              go_wp2_with fail
              refine (HG'.out _ _ _).mono ?_
              rintro e w' ⟨rfl, rfl⟩
              simp only [HF.out]
              go_wp2
              go_roundg (gk - 1)
              case measure => have := hn'.out; simp at this; omega
              case rel => exact ⟨some ad, c, x :: xs, B', d - 1, ys, out, rfl, rfl, ⟨by have := hn'.out; simp at this ⊢; omega⟩, ⟨by rw [← HE.out, joinF_gt f HXY.out.2, HF.out]; simp⟩, ⟨by have := HL.out; simp at this ⊢; omega⟩, ⟨HX.out.1, HX.out.2.1, HX'.out.2.1, HX'.out.2.2⟩, ⟨Kd.R_drew (Kd.R_drew HO.out)⟩, ⟨below_drew1 (below_drew1 HB.out)⟩⟩
            · have HF := Aside0.mk hf
              clear hf
              go_wp2
              refine wp_region_segs (by kernel_rfl) [(false, [0, 1, 2, 3, 4, 5, 6, 7, 8, 9, 11, 12, 10, 13, 14, 15, 16, 17])] (by decide) (by kernel_rfl) ?_
              simp only [wpSegs, pickOps, List.getElem?_toArray, List.getElem?_cons_succ, List.getElem?_cons_zero, Bool.false_eq_true, false_implies, true_and, forall_const]
              go_wp2
              refine ⟨rfl, by kernel_rfl, ?_⟩
              go_wp2
              refine wp_region_segs (by kernel_rfl) [(false, [0, 1, 2, 3, 4, 5, 6, 7, 8, 9, 11, 12, 10, 13, 14, 15, 16, 17])] (by decide) (by kernel_rfl) ?_
              simp only [wpSegs, pickOps, List.getElem?_toArray, List.getElem?_cons_succ, List.getElem?_cons_zero, Bool.false_eq_true, false_implies, true_and, forall_const]
              go_wp2
              refine ⟨rfl, by kernel_rfl, ?_⟩
              go_wp2_with fail
              refine (HG'.out _ _ _).mono ?_
              rintro e w' ⟨rfl, rfl⟩
              simp only [HF.out]
              go_wp2_with (at_builtin; refine app1 (w0 := w) w.heap.size rfl _ _ rfl u7 out y rfl rfl ((Kd.R_drew (Kd.R_drew HO.out))) (below_drew1 (below_drew1 HB.out)) (below_size (below_drew1 (below_drew1 HB.out))) (by have := HL.out; omega) ?_; intro v1 w1 ho hb; have HO1 := Aside0.mk ho; have HB1 := Aside0.mk hb; clear ho hb)
              go_roundg (gk - 1)
              case measure => have := hn'.out; simp at this; omega
              case rel => exact ⟨some ad, c, x :: xs, B', d - 1, ys, out ++ [y], rfl, rfl, ⟨by have := hn'.out; simp at this ⊢; omega⟩, ⟨by rw [← HE.out, joinF_gt f HXY.out.2, HF.out]; simp⟩, ⟨by have := HL.out; simp at this ⊢; omega⟩, ⟨HX.out.1, HX.out.2.1, HX'.out.2.1, HX'.out.2.2⟩, HO1, HB1⟩
          · obtain rfl : x = y := by omega
            have h1 : decide (x ≤ x) = true := by simp
            have HXY := Aside0.mk hxy
            clear hxy hyx
            cases hf : f true true
            · have HF := Aside0.mk hf
              clear hf
              go_wp2
              refine wp_region_segs (by kernel_rfl) [(false, [0, 1, 2, 3, 4, 5, 6, 7, 8, 9, 11, 12, 10, 13, 14, 15, 16, 17])] (by decide) (by kernel_rfl) ?_
              simp only [wpSegs, pickOps, List.getElem?_toArray, List.getElem?_cons_succ, List.getElem?_cons_zero, Bool.false_eq_true, false_implies, true_and, forall_const]
              go_wp2
              refine ⟨rfl, by kernel_rfl, ?_⟩
              go_wp2
              refine wp_region_segs (by kernel_rfl) [(false, [0, 1, 2, 3, 4, 5, 6, 7, 8, 9, 11, 12, 10, 13, 14, 15, 16, 17])] (by decide) (by kernel_rfl) ?_
              simp only [wpSegs, pickOps, List.getElem?_toArray, List.getElem?_cons_succ, List.getElem?_cons_zero, Bool.false_eq_true, false_implies, true_and, forall_const]
              go_wp2
              refine ⟨rfl, by kernel_rfl, ?_⟩
              go_wp2_with fail
              refine (HG'.out _ _ _).mono ?_
              rintro e w' ⟨rfl, rfl⟩
              simp only [HF.out]
              go_wp2
              go_roundg (gk - 2)
              case measure => have := hn'.out; simp at this; omega
              case rel => exact ⟨A', c - 1, xs, B', d - 1, ys, out, rfl, rfl, ⟨by have := hn'.out; simp at this ⊢; omega⟩, ⟨by rw [← HE.out]; simp [joinF, HF.out, HXY.out]⟩, ⟨by have := HL.out; simp at this ⊢; omega⟩, ⟨HX'.out.1.1, HX'.out.1.2, HX'.out.2.1, HX'.out.2.2⟩, ⟨Kd.R_drew (Kd.R_drew HO.out)⟩, ⟨below_drew1 (below_drew1 HB.out)⟩⟩
            · have HF := Aside0.mk hf
              clear hf
              go_wp2
              refine wp_region_segs (by kernel_rfl) [(false, [0, 1, 2, 3, 4, 5, 6, 7, 8, 9, 11, 12, 10, 13, 14, 15, 16, 17])] (by decide) (by kernel_rfl) ?_
              simp only [wpSegs, pickOps, List.getElem?_toArray, List.getElem?_cons_succ, List.getElem?_cons_zero, Bool.false_eq_true, false_implies, true_and, forall_const]
              go_wp2
              refine ⟨rfl, by kernel_rfl, ?_⟩
              go_wp2
              refine wp_region_segs (by kernel_rfl) [(false, [0, 1, 2, 3, 4, 5, 6, 7, 8, 9, 11, 12, 10, 13, 14, 15, 16, 17])] (by decide) (by kernel_rfl) ?_
              simp only [wpSegs, pickOps, List.getElem?_toArray, List.getElem?_cons_succ, List.getElem?_cons_zero, Bool.false_eq_true, false_implies, true_and, forall_const]
              go_wp2
              refine ⟨rfl, by kernel_rfl, ?_⟩
              go_wp2_with fail
              refine (HG'.out _ _ _).mono ?_
              rintro e w' ⟨rfl, rfl⟩
              simp only [HF.out]
              go_wp2_with (at_builtin; refine app1 (w0 := w) w.heap.size rfl _ _ rfl u7 out x rfl rfl ((Kd.R_drew (Kd.R_drew HO.out))) (below_drew1 (below_drew1 HB.out)) (below_size (below_drew1 (below_drew1 HB.out))) (by have := HL.out; omega) ?_; intro v1 w1 ho hb; have HO1 := Aside0.mk ho; have HB1 := Aside0.mk hb; clear ho hb)
              go_roundg (gk - 2)
              case measure => have := hn'.out; simp at this; omega
              case rel => exact ⟨A', c - 1, xs, B', d - 1, ys, out ++ [x], rfl, rfl, ⟨by have := hn'.out; simp at this ⊢; omega⟩, ⟨by rw [← HE.out]; simp [joinF, HF.out, HXY.out]⟩, ⟨by have := HL.out; simp at this ⊢; omega⟩, ⟨HX'.out.1.1, HX'.out.1.2, HX'.out.2.1, HX'.out.2.2⟩, HO1, HB1⟩
theorem inFirst_any (x y : Bool) (W : World) : Calls Try.prog 50 #[.bool x, .bool y] W fun e W' => e = .returned (.bool (x && !y)) ∧ W = W' := by
  cases x <;> (go_enter Try.func50, Try.ntmps50; go_wp2; go_ret; exact ⟨rfl, rfl⟩)
theorem inBoth_any (x y : Bool) (W : World) : Calls Try.prog 53 #[.bool x, .bool y] W fun e W' => e = .returned (.bool (x && y)) ∧ W = W' := by
  cases x <;> (go_enter Try.func53, Try.ntmps53; go_wp2; go_ret; exact ⟨rfl, rfl⟩)
theorem inAny_any (x y : Bool) (W : World) : Calls Try.prog 56 #[.bool x, .bool y] W fun e W' => e = .returned (.bool (x || y)) ∧ W = W' := by
  cases x <;> (go_enter Try.func56, Try.ntmps56; go_wp2; go_ret; exact ⟨rfl, rfl⟩)
theorem enters50 : ∀ args W, (callFunc 50 args).run Try.prog W = .ok (.enter 50 args) W := Go.Proofs.YtpbdlkbiiglkdaaW.PrintLast.enters_ Try.func50 (by kernel_rfl) rfl
theorem enters53 : ∀ args W, (callFunc 53 args).run Try.prog W = .ok (.enter 53 args) W := Go.Proofs.YtpbdlkbiiglkdaaW.PrintLast.enters_ Try.func53 (by kernel_rfl) rfl
theorem enters56 : ∀ args W, (callFunc 56 args).run Try.prog W = .ok (.enter 56 args) W := Go.Proofs.YtpbdlkbiiglkdaaW.PrintLast.enters_ Try.func56 (by kernel_rfl) rfl
def lessF (xs ys : List Int) : List Int := joinF (fun a b => a && !b) xs ys
def bothF (xs ys : List Int) : List Int := joinF (fun a b => a && b) xs ys
def anyF (xs ys : List Int) : List Int := joinF (fun a b => a || b) xs ys

end Go.Proofs.Ytpbdlkbiiglkdaa

/- What the printed functions come to, in plain words: sets as ascending lists. -/
set_option linter.unusedVariables false
set_option linter.unusedSimpArgs false
namespace Go.Proofs.Ytpbdlkbiiglkdaa
open Go.RowKit Go.Proofs.YtpbdlkbiiglkdaaW.PrintWords Go.Proofs.YtpbdlkbiiglkdaaW.PrintLast Go.Proofs.YtpbdlkbiiglkdaaW.PrintMore Go.Proofs.Ytpbdlkbiiglkdaa.PAll

/-- A list ascends from p on, up to n. -/
def setFrom (n : Int) : Int → List Int → Bool
  | _, [] => true
  | p, x :: l => decide (p < x) && (decide (x ≤ n) && setFrom n x l)
def setB (n : Int) (l : List Int) : Bool := setFrom n 0 l

theorem wrap_id {x : Int} (h0 : -9223372036854775808 ≤ x) (h1 : x ≤ 9223372036854775807) : wrap64 x = x := by unfold wrap64; omega
theorem rd_cons0 (x : Int) (l : List Int) : rd (x :: l) 0 = x := rfl
theorem rd_at (l : List Int) (i : Nat) (h : i < l.length) : rd l (i : Int) = l[i] := by
  unfold rd
  simp [List.getD_eq_getElem?_getD, List.getElem?_eq_getElem h]
theorem drop_at (l : List Int) (i : Nat) (h : i < l.length) : l.drop i = l[i] :: l.drop (i + 1) := (List.drop_eq_getElem_cons h)

theorem isSet_l0 (l : List Int) (n : Int) (hl : l.length ≤ 9223372036854775807) : ∀ (d i : Nat), l.length - i = d → i ≤ l.length → ∀ p : Int, 0 ≤ p → (i = 0 → p = 0) → (∀ (h : 0 < i) (h2 : i - 1 < l.length), p = l[i - 1] ∧ 1 ≤ p) →
    bits_isSet.l0 (d + 1) l n l (l.length : Int) (i : Int) = some (setFrom n p (l.drop i)) := by
  intro d
  induction d with
  | zero =>
    intro i hd hi p hp h0 h1
    have hi' : i = l.length := by omega
    rw [bits_isSet.l0]
    rw [if_neg (by omega), hi', List.drop_length]
    rfl
  | succ d ih =>
    intro i hd hi p hp h0 h1
    have hlt : i < l.length := by omega
    rw [bits_isSet.l0]
    rw [if_pos (by omega), if_pos (by omega), if_pos (by omega), rd_at l i hlt, drop_at l i hlt]
    simp only [setFrom]
    by_cases hx : l[i] < 1
    · rw [if_pos hx]
      have : ¬ p < l[i] := by omega
      simp [this]
    · rw [if_neg hx]
      by_cases hn : l[i] > n
      · rw [if_pos hn]
        have : ¬ l[i] ≤ n := by omega
        simp [this]
      · rw [if_neg hn]
        have hn' : l[i] ≤ n := by omega
        have next : bits_isSet.l0 (d + 1) l n l (l.length : Int) (wrap64 ((i : Int) + 1)) = some (setFrom n l[i] (l.drop (i + 1))) := by
          rw [wrap_id (by omega) (by omega), show (i : Int) + 1 = ((i + 1 : Nat) : Int) by omega]
          exact ih (i + 1) (by omega) (by omega) l[i] (by omega) (by omega) (fun _ h2 => ⟨by simp, by omega⟩)
        by_cases hi0 : i = 0
        · subst hi0
          rw [if_neg (by omega), next]
          have : p < l[0] := by have := h0 rfl; omega
          simp [this, hn']
        · rw [if_pos (by omega), wrap_id (by omega) (by omega), show (i : Int) - 1 = ((i - 1 : Nat) : Int) by omega]
          have hp' := h1 (by omega) (by omega)
          rw [if_pos (by omega), if_pos (by omega), rd_at l (i - 1) (by omega), ← hp'.1]
          by_cases hle : l[i] ≤ p
          · rw [if_pos hle]
            have : ¬ p < l[i] := by omega
            simp [this]
          · rw [if_neg hle, next]
            have : p < l[i] := by omega
            simp [this, hn']

theorem isSet_f (l : List Int) (n : Int) (hl : l.length ≤ 9223372036854775807) : ∃ k, bits_isSet.f k l n = some (setB n l) := by
  refine ⟨l.length - 0 + 1, ?_⟩
  have := isSet_l0 l n hl (l.length - 0) 0 rfl (by omega) 0 (by omega) (fun _ => rfl) (fun h => by omega)
  simpa [bits_isSet.f, setB] using this

theorem setFrom_mem {n : Int} : ∀ {l : List Int} {p : Int}, setFrom n p l = true → ∀ x ∈ l, p < x ∧ x ≤ n
  | [], p, h, x, hx => by cases hx
  | y :: l, p, h, x, hx => by
    simp only [setFrom, Bool.and_eq_true, decide_eq_true_eq] at h
    rcases List.mem_cons.1 hx with rfl | hx
    · exact ⟨h.1, h.2.1⟩
    · have := setFrom_mem h.2.2 x hx
      exact ⟨by omega, this.2⟩
theorem setFrom_length {n : Int} : ∀ {l : List Int} {p : Int}, setFrom n p l = true → p ≤ n → (l.length : Int) ≤ n - p
  | [], p, h, hp => by simp; omega
  | y :: l, p, h, hp => by
    simp only [setFrom, Bool.and_eq_true, decide_eq_true_eq] at h
    have := setFrom_length h.2.2 h.2.1
    simp
    omega
theorem setB_length {l : List Int} (h : setB 300 l = true) : l.length ≤ 300 := by
  have := setFrom_length h (by omega)
  omega

/-! ### the wrappers -/
theorem isSet_any (A0 : Option Addr) (c0 : Nat) (l0 : List Int) (n : Int) (w : World) (hr0 : Kd.C (Kd.int .i64) w A0 l0.length l0) (hc0 : l0.length ≤ c0) :
    Calls Try.prog 47 #[.slice A0 l0.length c0, .int .i64 n] w fun e w' => e = .returned (.bool (setB n l0)) ∧ Drawn0 w w' := by
  obtain ⟨k, hk⟩ := isSet_f l0 n hr0.2.1
  exact bits_isSet.calls k A0 c0 l0 n _ w hr0 hc0 hk
end Go.Proofs.Ytpbdlkbiiglkdaa

/- What Validate, both, .. do, by the functions that they call. -/
set_option linter.unusedVariables false
set_option linter.unusedSimpArgs false
namespace Go.Proofs.Ytpbdlkbiiglkdaa
open Go.RowKit Go.Proofs.YtpbdlkbiiglkdaaW.PrintWords Go.Proofs.YtpbdlkbiiglkdaaW.PrintLast Go.Proofs.YtpbdlkbiiglkdaaW.PrintMore Go.Proofs.Cab

/-- What Validate answers: 0 or ErrArg. -/
def valE (s m : List Int) : Int := if setB 300 s = true ∧ setB 300 m = true ∧ lessF s m = [] then 0 else 1

set_option maxHeartbeats 4000000 in
set_option maxRecDepth 100000 in
theorem Validate_any (A0 : Option Addr) (c0 : Nat) (l0 : List Int) (A1 : Option Addr) (c1 : Nat) (l1 : List Int) (w : World)
    (hr0 : Kd.C (Kd.int .i64) w A0 l0.length l0) (hc0 : l0.length ≤ c0) (hr1 : Kd.C (Kd.int .i64) w A1 l1.length l1) (hc1 : l1.length ≤ c1) :
    Calls Try.prog 22 #[.agg #[.slice A0 l0.length c0, .slice A1 l1.length c1]] w fun e w' => e = .returned (.int .i64 (valE l0 l1)) ∧ Below w.heap.size w w' := by
  have HR0 := Aside0.mk hr0
  have HC0 := Aside0.mk hc0
  have HR1 := Aside0.mk hr1
  have HC1 := Aside0.mk hc1
  clear hr0 hc0 hr1 hc1
  have hu29 := Try.underlying29
  go_enter Try.func22, Try.ntmps22
  cases hs0 : setB 300 l0
  · have HS := Aside0.mk hs0
    clear hs0
    go_wp2_with fail
    refine (isSet_any A0 c0 l0 300 _ (by repeat (first | exact HR0.out | (with_reducible refine Kd.C_alloc ?_ _) | (with_reducible refine Kd.C_drewN ?_ _) | (with_reducible refine Kd.C_drew ?_))) HC0.out).mono ?_
    rintro e w' ⟨rfl, ⟨n, rfl⟩⟩
    simp only [HS.out]
    go_wp2_with fail
    go_ret
    exact ⟨by simp [valE, HS.out], (by repeat (first | exact Below.refl _ _ | apply pw_below_drewN | apply below_drew1 | apply below_alloc))⟩
  · have HS := Aside0.mk hs0
    clear hs0
    have HS1 : Aside0 (∃ b, setB 300 l1 = b) := ⟨⟨_, rfl⟩⟩
    cases hs1 : setB 300 l1
    · have HS1 := Aside0.mk hs1
      clear hs1
      go_wp2_with fail
      refine (isSet_any A0 c0 l0 300 _ (by repeat (first | exact HR0.out | (with_reducible refine Kd.C_alloc ?_ _) | (with_reducible refine Kd.C_drewN ?_ _) | (with_reducible refine Kd.C_drew ?_))) HC0.out).mono ?_
      rintro e w' ⟨rfl, ⟨n, rfl⟩⟩
      simp only [HS.out]
      go_wp2_with fail
      refine (isSet_any A1 c1 l1 300 _ (by repeat (first | exact HR1.out | (with_reducible refine Kd.C_alloc ?_ _) | (with_reducible refine Kd.C_drewN ?_ _) | (with_reducible refine Kd.C_drew ?_))) HC1.out).mono ?_
      rintro e w' ⟨rfl, ⟨n2, rfl⟩⟩
      simp only [HS1.out]
      go_wp2_with fail
      go_ret
      exact ⟨by simp [valE, HS1.out], (by repeat (first | exact Below.refl _ _ | apply pw_below_drewN | apply below_drew1 | apply below_alloc))⟩
    · have HS1 := Aside0.mk hs1
      clear hs1
      go_wp2_with fail
      refine (isSet_any A0 c0 l0 300 _ (by repeat (first | exact HR0.out | (with_reducible refine Kd.C_alloc ?_ _) | (with_reducible refine Kd.C_drewN ?_ _) | (with_reducible refine Kd.C_drew ?_))) HC0.out).mono ?_
      rintro e w' ⟨rfl, ⟨n, rfl⟩⟩
      simp only [HS.out]
      go_wp2_with fail
      refine (isSet_any A1 c1 l1 300 _ (by repeat (first | exact HR1.out | (with_reducible refine Kd.C_alloc ?_ _) | (with_reducible refine Kd.C_drewN ?_ _) | (with_reducible refine Kd.C_drew ?_))) HC1.out).mono ?_
      rintro e w' ⟨rfl, ⟨n2, rfl⟩⟩
      simp only [HS1.out]
      go_wp2_with fail
      refine (joined_calls 50 (fun a b => a && !b) enters50 inFirst_any A0 c0 l0 A1 c1 l1 _ (by repeat (first | exact HR0.out | (with_reducible refine Kd.C_alloc ?_ _) | (with_reducible refine Kd.C_drewN ?_ _) | (with_reducible refine Kd.C_drew ?_))) HC0.out (by repeat (first | exact HR1.out | (with_reducible refine Kd.C_alloc ?_ _) | (with_reducible refine Kd.C_drewN ?_ _) | (with_reducible refine Kd.C_drew ?_))) HC1.out ?_ ?_).mono ?_
      · have := setB_length HS.out; omega
      · have := setB_length HS1.out; omega
      rintro e w' ⟨v, rfl, hO, hB⟩
      obtain ⟨A, c, rfl⟩ := Kd.R_slice hO
      have HB := Aside0.mk hB
      clear hB hO
      have hl : joinF (fun a b => a && !b) l0 l1 = lessF l0 l1 := rfl
      rw [hl]
      have HL := Aside0.mk hl
      clear hl
      cases hL : lessF l0 l1
      all_goals
        have HLL := Aside0.mk hL
        clear hL
        go_wp2_with fail
        go_ret
        exact ⟨by simp [valE, HS.out, HS1.out, HLL.out], below_step (by repeat (first | exact Below.refl _ _ | apply pw_below_drewN | apply below_drew1 | apply below_alloc)) HB.out⟩
/-- A slice of ints that is read. -/
def Rd (w : World) (v : Value) (xs : List Int) : Prop := ∃ A c, v = .slice A xs.length c ∧ xs.length ≤ c ∧ Kd.C (Kd.int .i64) w A xs.length xs
theorem Rd.below {w w1 : World} {v : Value} {xs : List Int} (h : Rd w v xs) (hb : Below w.heap.size w w1) : Rd w1 v xs := by
  obtain ⟨A, c, rfl, hc, h⟩ := h
  exact ⟨A, c, rfl, hc, Kd.C_below h hb⟩
theorem Rd.of_R {w : World} {v : Value} {xs : List Int} {base : Nat} {ok : Nat → Prop} (h : Kd.R (Kd.int .i64) 3 w base ok v xs) : Rd w v xs := by
  obtain ⟨A, c, he, hl, hr⟩ := Kd.R_reads h
  exact ⟨A, c, he, hl, hr⟩
theorem Rd.nil (w : World) : Rd w (.slice none 0 0) [] := ⟨none, 0, rfl, by simp, Kd.C_nil _ _⟩
theorem Rd.drew {w : World} {v : Value} {xs : List Int} (h : Rd w v xs) : Rd w.drew v xs := h
/-- A row of ints that was made from block n on. -/
def Own (w : World) (n : Nat) (v : Value) (xs : List Int) : Prop := Kd.R (Kd.int .i64) 3 w n (fun _ => True) v xs
theorem Own.nil (w : World) (n : Nat) : Own w n (.slice none 0 0) [] := Kd.R_nil _ _ _ _ _
theorem Own.below {w w1 : World} {n : Nat} {v : Value} {xs : List Int} (h : Own w n v xs) (hb : Below w.heap.size w w1) : Own w1 n v xs := Kd.R_below h hb
theorem Own.lower {w : World} {n m : Nat} {v : Value} {xs : List Int} (h : Own w n v xs) (hb : m ≤ n) : Own w m v xs := Kd.R_lower h hb
theorem Own.set {w : World} {n : Nat} {v : Value} {xs : List Int} (h : Own w n v xs) {g : Nat} (hg : g < n) (i : Nat) (u : Value) : Own (w.setCell ⟨g, i, none⟩ u) n v xs :=
  Kd.R_mono (Kd.R_far (p := ⟨g, i, none⟩) (Kd.R_mono (ok' := fun k => n ≤ k) (Kd.R_bound h) (fun k hk => hk.2.1)) (fun k hk => by show k ≠ g; omega) u) (fun _ _ => trivial)
theorem Own.rd {w : World} {n : Nat} {v : Value} {xs : List Int} (h : Own w n v xs) : Rd w v xs := Rd.of_R h
theorem Own.slice {w : World} {n : Nat} {v : Value} {xs : List Int} (h : Own w n v xs) : ∃ A c, v = .slice A xs.length c ∧ xs.length ≤ c ∧ Kd.C (Kd.int .i64) w A xs.length xs := h.rd
theorem ext_of_below {w w1 : World} (h : Below w.heap.size w w1) : Ext w w1 := fun k hk => h.block k hk

/-- What both answers: the error, and what is known. -/
def bothE (l0 l1 m0 m1 : List Int) : Int := if valE l0 l1 = 0 then valE m0 m1 else valE l0 l1
def bothL (f : Bool → Bool → Bool) (l0 l1 m0 m1 a b : List Int) : List Int := if valE l0 l1 = 0 ∧ valE m0 m1 = 0 then joinF f a b else []
theorem blks3 (w : World) (o1 o2 o3 : Obj) (w1 : World) (hb : Below (((w.alloc o1).alloc o2).alloc o3).heap.size (((w.alloc o1).alloc o2).alloc o3) w1) :
    w1.heap[w.heap.size]? = some o1 ∧ w1.heap[w.heap.size + 1]? = some o2 ∧ w1.heap[w.heap.size + 1 + 1]? = some o3 ∧ Below w.heap.size w w1 := by
  refine ⟨?_, ?_, ?_, below_step (by repeat (first | exact Below.refl _ _ | apply pw_below_drewN | apply below_drew1 | apply below_alloc)) hb⟩
  · exact blk_below (blk_new w o1) (below_step (by repeat (first | exact Below.refl _ _ | apply pw_below_drewN | apply below_drew1 | apply below_alloc)) hb)
  · have := blk_below (blk_new (w.alloc o1) o2) (below_step (below_alloc (Below.refl _ _) o3) hb)
    simpa using this
  · have := blk_below (blk_new ((w.alloc o1).alloc o2) o3) hb
    simpa using this
theorem blks2 (w : World) (o1 o2 : Obj) (w1 : World) (hb : Below ((w.alloc o1).alloc o2).heap.size ((w.alloc o1).alloc o2) w1) :
    w1.heap[w.heap.size]? = some o1 ∧ w1.heap[w.heap.size + 1]? = some o2 ∧ Below w.heap.size w w1 := by
  refine ⟨?_, ?_, below_step (by repeat (first | exact Below.refl _ _ | apply pw_below_drewN | apply below_drew1 | apply below_alloc)) hb⟩
  · exact blk_below (blk_new w o1) (below_step (by repeat (first | exact Below.refl _ _ | apply pw_below_drewN | apply below_drew1 | apply below_alloc)) hb)
  · have := blk_below (blk_new (w.alloc o1) o2) hb
    simpa using this

set_option maxHeartbeats 4000000 in
set_option maxRecDepth 100000 in
theorem both_any (g : FuncId) (f : Bool → Bool → Bool) (hE : ∀ args W, (callFunc g args).run Try.prog W = .ok (.enter g args) W)
    (HG : ∀ x y W, Calls Try.prog g #[.bool x, .bool y] W fun e W' => e = .returned (.bool (f x y)) ∧ W = W')
    (A0 : Option Addr) (c0 : Nat) (l0 : List Int) (A1 : Option Addr) (c1 : Nat) (l1 : List Int) (B0 : Option Addr) (d0 : Nat) (m0 : List Int) (B1 : Option Addr) (d1 : Nat) (m1 : List Int) (w : World)
    (hr0 : Kd.C (Kd.int .i64) w A0 l0.length l0) (hc0 : l0.length ≤ c0) (hr1 : Kd.C (Kd.int .i64) w A1 l1.length l1) (hc1 : l1.length ≤ c1)
    (hs0 : Kd.C (Kd.int .i64) w B0 m0.length m0) (hd0 : m0.length ≤ d0) (hs1 : Kd.C (Kd.int .i64) w B1 m1.length m1) (hd1 : m1.length ≤ d1) :
    Calls Try.prog 52 #[.agg #[.slice A0 l0.length c0, .slice A1 l1.length c1], .agg #[.slice B0 m0.length d0, .slice B1 m1.length d1], .func (.func g) #[] #[]] w fun e w' => ∃ v0 v1 : Value,
      e = .returned (.tuple #[.agg #[v0, v1], .int .i64 (bothE l0 l1 m0 m1)]) ∧
      Own w' w.heap.size v0 (bothL f l0 l1 m0 m1 l0 m0) ∧ Own w' w.heap.size v1 (bothL f l0 l1 m0 m1 l1 m1) ∧ Below w.heap.size w w' := by
  have HR0 := Aside0.mk hr0
  have HC0 := Aside0.mk hc0
  have HR1 := Aside0.mk hr1
  have HC1 := Aside0.mk hc1
  have HS0 := Aside0.mk hs0
  have HD0 := Aside0.mk hd0
  have HS1 := Aside0.mk hs1
  have HD1 := Aside0.mk hd1
  clear hr0 hc0 hr1 hc1 hs0 hd0 hs1 hd1
  have hu29 := Try.underlying29
  go_enter Try.func52, Try.ntmps52
  by_cases hv : valE l0 l1 = 0
  · have HV := Aside0.mk hv
    have hv1 : (valE l0 l1 == 0) = true := by simpa using hv
    have hv2 : (valE l0 l1 != 0) = false := by simpa using hv
    clear hv
    go_wp2_with fail
    refine (Validate_any A0 c0 l0 A1 c1 l1 _ (by repeat (first | exact HR0.out | (with_reducible refine Kd.C_alloc ?_ _) | (with_reducible refine Kd.C_drewN ?_ _) | (with_reducible refine Kd.C_drew ?_))) HC0.out (by repeat (first | exact HR1.out | (with_reducible refine Kd.C_alloc ?_ _) | (with_reducible refine Kd.C_drewN ?_ _) | (with_reducible refine Kd.C_drew ?_))) HC1.out).mono ?_
    rintro e w1 ⟨rfl, hb⟩
    obtain ⟨b0, b1, b2, hB⟩ := blks3 _ _ _ _ _ hb
    have HB := Aside0.mk hB
    have B0' := Aside0.mk b0
    have B1' := Aside0.mk b1
    have B2 := Aside0.mk b2
    have hc2 : w1.cell? ⟨w.heap.size + 1, 0, none⟩ = some (.slice B0 m0.length d0) := (blk_cell b1 0).trans rfl
    have hc3 : w1.cell? ⟨w.heap.size + 1, 1, none⟩ = some (.slice B1 m1.length d1) := (blk_cell b1 1).trans rfl
    clear hb b0 b1 b2 hB
    by_cases hw : valE m0 m1 = 0
    · have HW := Aside0.mk hw
      have hw1 : (valE m0 m1 == 0) = true := by simpa using hw
      have hw2 : (valE m0 m1 != 0) = false := by simpa using hw
      clear hw
      have HN : Aside0 (l0.length ≤ 3000 ∧ l1.length ≤ 3000 ∧ m0.length ≤ 3000 ∧ m1.length ≤ 3000) := ⟨by
        have h1 := HV.out
        have h2 := HW.out
        unfold valE at h1 h2
        split at h1
        · rename_i h3
          split at h2
          · rename_i h4
            have := setB_length h3.1
            have := setB_length h3.2.1
            have := setB_length h4.1
            have := setB_length h4.2.1
            omega
          · simp at h2
        · simp at h1⟩
      go_wp2_with fail
      refine (Validate_any B0 d0 m0 B1 d1 m1 _ (Kd.C_below HS0.out HB.out) HD0.out (Kd.C_below HS1.out HB.out) HD1.out).mono ?_
      rintro e w2 ⟨rfl, hb⟩
      have b0 := blk_below B0'.out hb
      have b1 := blk_below B1'.out hb
      have b2 := blk_below B2.out hb
      have HB2 := Aside0.mk (below_step HB.out hb)
      clear hb hc2 hc3
      have B22 := Aside0.mk b2
      have hc0 : w2.cell? ⟨w.heap.size, 0, none⟩ = some (.slice A0 l0.length c0) := (blk_cell b0 0).trans rfl
      have hc1 : w2.cell? ⟨w.heap.size, 1, none⟩ = some (.slice A1 l1.length c1) := (blk_cell b0 1).trans rfl
      have hc2 : w2.cell? ⟨w.heap.size + 1, 0, none⟩ = some (.slice B0 m0.length d0) := (blk_cell b1 0).trans rfl
      have hc3 : w2.cell? ⟨w.heap.size + 1, 1, none⟩ = some (.slice B1 m1.length d1) := (blk_cell b1 1).trans rfl
      clear b0 b1 b2
      go_wp2_with fail
      refine wp_region_segs (by kernel_rfl) [(false, [0, 2, 4, 6, 8, 10, 1, 3, 7, 9]), (true, [5]), (false, [11, 12, 13, 14])] (by decide) (by kernel_rfl) ?_
      simp only [wpSegs, pickOps, List.getElem?_toArray, List.getElem?_cons_succ, List.getElem?_cons_zero, Bool.false_eq_true, false_implies, true_and, forall_const]
      go_wp2_with fail
      refine (joined_calls g f hE HG A0 c0 l0 B0 d0 m0 _ (Kd.C_below HR0.out (below_drew1 HB2.out)) HC0.out (Kd.C_below HS0.out (below_drew1 HB2.out)) HD0.out HN.out.1 HN.out.2.2.1).mono ?_
      rintro e w3 ⟨v0, rfl, ho, hb⟩
      have HX := Aside0.mk (ext_of_below hb)
      have B23 := Aside0.mk (blk_below (blk_drew B22.out) hb)
      have HB3 := Aside0.mk (below_step (below_drew1 HB2.out) hb)
      have HS2 : w.heap.size + 1 + 1 < w2.drew.heap.size := blk_lt (blk_drew B22.out)
      have HO : Aside0 (Own w3 w2.drew.heap.size v0 (joinF f l0 m0)) := ⟨ho⟩
      have HSz := Aside0.mk HS2
      have HSy := Aside0.mk (Nat.le_trans (Nat.le_of_lt HS2) hb.size)
      have HSx := Aside0.mk (blk_lt B23.out)
      clear HS2
      obtain ⟨A2, c2, rfl⟩ := Kd.R_slice ho
      clear hc0 hc1 hc2 hc3 ho hb
      go_wp2_with fail
      refine ⟨HX.out, ?_⟩
      go_wp2_with fail
      refine (joined_calls g f hE HG A1 c1 l1 B1 d1 m1 _ (Kd.C_below HR1.out HB3.out) HC1.out (Kd.C_below HS1.out HB3.out) HD1.out HN.out.2.1 HN.out.2.2.2).mono ?_
      rintro e w4 ⟨v1, rfl, ho, hb⟩
      have b2 := blk_below B23.out hb
      have B24 := Aside0.mk b2
      have HB4 := Aside0.mk (below_step HB3.out hb)
      have HO' := Aside0.mk (HO.out.below hb)
      have HP : Aside0 (Own w4 w3.heap.size v1 (joinF f l1 m1)) := ⟨ho⟩
      obtain ⟨A3, c3, rfl⟩ := Kd.R_slice ho
      have hc0 : w4.cell? ⟨w.heap.size + 1 + 1, 0, none⟩ = some (.slice none 0 0) := (blk_cell b2 0).trans rfl
      have hc1 : w4.cell? ⟨w.heap.size + 1 + 1, 1, none⟩ = some (.slice none 0 0) := (blk_cell b2 1).trans rfl
      have hf0 := blk_frozen b2 0
      have hf1 := blk_frozen b2 1
      clear b2 ho hb
      go_wp2_with fail
      refine ⟨rfl, by kernel_rfl, ?_⟩
      go_wp2_with fail
      refine bodyPost_ret (results_ct rfl _ _ (w.heap.size + 1 + 1) 29 #[.slice A2 (joinF f l0 m0).length c2, .slice A3 (joinF f l1 m1).length c3] (0, 0) _ rfl (blk_put (cs := #[.slice A2 (joinF f l0 m0).length c2, .slice none 0 0]) (blk_put (cs := #[.slice none 0 0, .slice none 0 0]) B24.out 0 _ rfl) 1 _ rfl) Try.underlying29 rfl (by kernel_rfl)) rfl ?_
      refine ⟨_, _, by rw [bothE, if_pos HV.out, HW.out]; rfl, ?_, ?_, ?_⟩
      · simp only [bothL, HV.out, HW.out, and_self, if_true]
        exact Own.lower (Own.set (Own.set HO'.out HSz.out _ _) HSz.out _ _) (by have := HSz.out; omega)
      · simp only [bothL, HV.out, HW.out, and_self, if_true]
        exact Own.lower (Own.set (Own.set HP.out HSx.out _ _) HSx.out _ _) (by have := HSx.out; omega)
      · exact below_set (below_set HB4.out (by omega)) (by omega)
    · have HW := Aside0.mk hw
      have hw1 : (valE m0 m1 == 0) = false := by simpa using hw
      have hw2 : (valE m0 m1 != 0) = true := by simpa using hw
      clear hw
      go_wp2_with fail
      refine (Validate_any B0 d0 m0 B1 d1 m1 _ (Kd.C_below HS0.out HB.out) HD0.out (Kd.C_below HS1.out HB.out) HD1.out).mono ?_
      rintro e w2 ⟨rfl, hb⟩
      have b2 := blk_below B2.out hb
      have HB2 := Aside0.mk (below_step HB.out hb)
      clear hb hc2 hc3
      have B22 := Aside0.mk b2
      have hc0 : w2.cell? ⟨w.heap.size + 1 + 1, 0, none⟩ = some (.slice none 0 0) := (blk_cell b2 0).trans rfl
      have hc1 : w2.cell? ⟨w.heap.size + 1 + 1, 1, none⟩ = some (.slice none 0 0) := (blk_cell b2 1).trans rfl
      have hf0 := blk_frozen b2 0
      have hf1 := blk_frozen b2 1
      clear b2
      go_wp2_with fail
      refine bodyPost_ret (results_ct rfl _ _ (w.heap.size + 1 + 1) 29 #[.slice none 0 0, .slice none 0 0] (0, 0) _ rfl (blk_put (cs := #[.slice none 0 0, .slice none 0 0]) (blk_put (cs := #[.slice none 0 0, .slice none 0 0]) B22.out 0 _ rfl) 1 _ rfl) Try.underlying29 rfl (by kernel_rfl)) rfl ?_
      refine ⟨.slice none 0 0, .slice none 0 0, by rw [bothE, if_pos HV.out]; rfl, ?_, ?_, ?_⟩
      · simp only [bothL, HW.out, and_false, if_false]; exact Own.nil _ _
      · simp only [bothL, HW.out, and_false, if_false]; exact Own.nil _ _
      · exact below_set (below_set HB2.out (by omega)) (by omega)
  · have HV := Aside0.mk hv
    have hv1 : (valE l0 l1 == 0) = false := by simpa using hv
    have hv2 : (valE l0 l1 != 0) = true := by simpa using hv
    clear hv
    go_wp2_with fail
    refine (Validate_any A0 c0 l0 A1 c1 l1 _ (by repeat (first | exact HR0.out | (with_reducible refine Kd.C_alloc ?_ _) | (with_reducible refine Kd.C_drewN ?_ _) | (with_reducible refine Kd.C_drew ?_))) HC0.out (by repeat (first | exact HR1.out | (with_reducible refine Kd.C_alloc ?_ _) | (with_reducible refine Kd.C_drewN ?_ _) | (with_reducible refine Kd.C_drew ?_))) HC1.out).mono ?_
    rintro e w1 ⟨rfl, hb⟩
    obtain ⟨b0, b1, b2, hB⟩ := blks3 _ _ _ _ _ hb
    have HB := Aside0.mk hB
    have B2 := Aside0.mk b2
    have hc0 : w1.cell? ⟨w.heap.size + 1 + 1, 0, none⟩ = some (.slice none 0 0) := (blk_cell b2 0).trans rfl
    have hc1 : w1.cell? ⟨w.heap.size + 1 + 1, 1, none⟩ = some (.slice none 0 0) := (blk_cell b2 1).trans rfl
    have hf0 := blk_frozen b2 0
    have hf1 := blk_frozen b2 1
    clear hb b0 b1 b2 hB
    go_wp2_with fail
    refine bodyPost_ret (results_ct rfl _ _ (w.heap.size + 1 + 1) 29 #[.slice none 0 0, .slice none 0 0] (0, 0) _ rfl (blk_put (cs := #[.slice none 0 0, .slice none 0 0]) (blk_put (cs := #[.slice none 0 0, .slice none 0 0]) B2.out 0 _ rfl) 1 _ rfl) Try.underlying29 rfl (by kernel_rfl)) rfl ?_
    refine ⟨.slice none 0 0, .slice none 0 0, by rw [bothE, if_neg HV.out]; rfl, ?_, ?_, ?_⟩
    · simp only [bothL, HV.out, false_and, if_false]; exact Own.nil _ _
    · simp only [bothL, HV.out, false_and, if_false]; exact Own.nil _ _
    · exact below_set (below_set HB.out (by omega)) (by omega)
end Go.Proofs.Ytpbdlkbiiglkdaa

/- And, Or, Not, Known, Settle, Doubt, True. -/
set_option linter.unusedVariables false
set_option linter.unusedSimpArgs false
namespace Go.Proofs.Ytpbdlkbiiglkdaa
open Go.RowKit Go.Proofs.YtpbdlkbiiglkdaaW.PrintWords Go.Proofs.YtpbdlkbiiglkdaaW.PrintLast Go.Proofs.YtpbdlkbiiglkdaaW.PrintMore Go.Proofs.Cab

set_option maxHeartbeats 4000000 in
set_option maxRecDepth 100000 in
theorem And_any (A0 : Option Addr) (c0 : Nat) (l0 : List Int) (A1 : Option Addr) (c1 : Nat) (l1 : List Int) (B0 : Option Addr) (d0 : Nat) (m0 : List Int) (B1 : Option Addr) (d1 : Nat) (m1 : List Int) (w : World)
    (hr0 : Kd.C (Kd.int .i64) w A0 l0.length l0) (hc0 : l0.length ≤ c0) (hr1 : Kd.C (Kd.int .i64) w A1 l1.length l1) (hc1 : l1.length ≤ c1)
    (hs0 : Kd.C (Kd.int .i64) w B0 m0.length m0) (hd0 : m0.length ≤ d0) (hs1 : Kd.C (Kd.int .i64) w B1 m1.length m1) (hd1 : m1.length ≤ d1) :
    Calls Try.prog 17 #[.agg #[.slice A0 l0.length c0, .slice A1 l1.length c1], .agg #[.slice B0 m0.length d0, .slice B1 m1.length d1]] w fun e w' => ∃ v0 v1 : Value,
      e = .returned (.tuple #[.agg #[v0, v1], .int .i64 (bothE l0 l1 m0 m1)]) ∧
      Own w' w.heap.size v0 (bothL (fun a b => a && b) l0 l1 m0 m1 l0 m0) ∧ Own w' w.heap.size v1 (bothL (fun a b => a && b) l0 l1 m0 m1 l1 m1) ∧ Below w.heap.size w w' := by
  have HR0 := Aside0.mk hr0
  have HC0 := Aside0.mk hc0
  have HR1 := Aside0.mk hr1
  have HC1 := Aside0.mk hc1
  have HS0 := Aside0.mk hs0
  have HD0 := Aside0.mk hd0
  have HS1 := Aside0.mk hs1
  have HD1 := Aside0.mk hd1
  clear hr0 hc0 hr1 hc1 hs0 hd0 hs1 hd1
  have hu29 := Try.underlying29
  go_enter Try.func17, Try.ntmps17
  go_wp2_with fail
  refine (both_any 53 (fun a b => a && b) enters53 inBoth_any A0 c0 l0 A1 c1 l1 B0 d0 m0 B1 d1 m1 _ (by repeat (first | exact HR0.out | (with_reducible refine Kd.C_alloc ?_ _) | (with_reducible refine Kd.C_drewN ?_ _) | (with_reducible refine Kd.C_drew ?_))) HC0.out (by repeat (first | exact HR1.out | (with_reducible refine Kd.C_alloc ?_ _) | (with_reducible refine Kd.C_drewN ?_ _) | (with_reducible refine Kd.C_drew ?_))) HC1.out (by repeat (first | exact HS0.out | (with_reducible refine Kd.C_alloc ?_ _) | (with_reducible refine Kd.C_drewN ?_ _) | (with_reducible refine Kd.C_drew ?_))) HD0.out (by repeat (first | exact HS1.out | (with_reducible refine Kd.C_alloc ?_ _) | (with_reducible refine Kd.C_drewN ?_ _) | (with_reducible refine Kd.C_drew ?_))) HD1.out).mono ?_
  rintro e w1 ⟨v0, v1, rfl, ho0, ho1, hb⟩
  obtain ⟨b0, b1, b2, hB⟩ := blks3 _ _ _ _ _ hb
  obtain ⟨A2, c2, rfl, _⟩ := ho0.slice
  obtain ⟨A3, c3, rfl, _⟩ := ho1.slice
  have HB := Aside0.mk hB
  have B2 := Aside0.mk b2
  have HO0 := Aside0.mk ho0
  have HO1 := Aside0.mk ho1
  have hc0 : w1.cell? ⟨w.heap.size + 1 + 1, 0, none⟩ = some (.slice none 0 0) := (blk_cell b2 0).trans rfl
  have hc1 : w1.cell? ⟨w.heap.size + 1 + 1, 1, none⟩ = some (.slice none 0 0) := (blk_cell b2 1).trans rfl
  have hf0 := blk_frozen b2 0
  have hf1 := blk_frozen b2 1
  clear hb b0 b1 b2 hB ho0 ho1
  go_wp2_with fail
  refine bodyPost_ret (results_ct rfl _ _ (w.heap.size + 1 + 1) 29 #[_, _] (0, 0) _ rfl (blk_put (cs := #[_, .slice none 0 0]) (blk_put (cs := #[.slice none 0 0, .slice none 0 0]) B2.out 0 _ rfl) 1 _ rfl) Try.underlying29 rfl (by kernel_rfl)) rfl ?_
  exact ⟨_, _, rfl, Own.lower (Own.set (Own.set HO0.out (by simp) _ _) (by simp) _ _) (by simp; omega), Own.lower (Own.set (Own.set HO1.out (by simp) _ _) (by simp) _ _) (by simp; omega), below_set (below_set HB.out (by omega)) (by omega)⟩
set_option maxHeartbeats 4000000 in
set_option maxRecDepth 100000 in
theorem Or_any (A0 : Option Addr) (c0 : Nat) (l0 : List Int) (A1 : Option Addr) (c1 : Nat) (l1 : List Int) (B0 : Option Addr) (d0 : Nat) (m0 : List Int) (B1 : Option Addr) (d1 : Nat) (m1 : List Int) (w : World)
    (hr0 : Kd.C (Kd.int .i64) w A0 l0.length l0) (hc0 : l0.length ≤ c0) (hr1 : Kd.C (Kd.int .i64) w A1 l1.length l1) (hc1 : l1.length ≤ c1)
    (hs0 : Kd.C (Kd.int .i64) w B0 m0.length m0) (hd0 : m0.length ≤ d0) (hs1 : Kd.C (Kd.int .i64) w B1 m1.length m1) (hd1 : m1.length ≤ d1) :
    Calls Try.prog 19 #[.agg #[.slice A0 l0.length c0, .slice A1 l1.length c1], .agg #[.slice B0 m0.length d0, .slice B1 m1.length d1]] w fun e w' => ∃ v0 v1 : Value,
      e = .returned (.tuple #[.agg #[v0, v1], .int .i64 (bothE l0 l1 m0 m1)]) ∧
      Own w' w.heap.size v0 (bothL (fun a b => a || b) l0 l1 m0 m1 l0 m0) ∧ Own w' w.heap.size v1 (bothL (fun a b => a || b) l0 l1 m0 m1 l1 m1) ∧ Below w.heap.size w w' := by
  have HR0 := Aside0.mk hr0
  have HC0 := Aside0.mk hc0
  have HR1 := Aside0.mk hr1
  have HC1 := Aside0.mk hc1
  have HS0 := Aside0.mk hs0
  have HD0 := Aside0.mk hd0
  have HS1 := Aside0.mk hs1
  have HD1 := Aside0.mk hd1
  clear hr0 hc0 hr1 hc1 hs0 hd0 hs1 hd1
  have hu29 := Try.underlying29
  go_enter Try.func19, Try.ntmps19
  go_wp2_with fail
  refine (both_any 56 (fun a b => a || b) enters56 inAny_any A0 c0 l0 A1 c1 l1 B0 d0 m0 B1 d1 m1 _ (by repeat (first | exact HR0.out | (with_reducible refine Kd.C_alloc ?_ _) | (with_reducible refine Kd.C_drewN ?_ _) | (with_reducible refine Kd.C_drew ?_))) HC0.out (by repeat (first | exact HR1.out | (with_reducible refine Kd.C_alloc ?_ _) | (with_reducible refine Kd.C_drewN ?_ _) | (with_reducible refine Kd.C_drew ?_))) HC1.out (by repeat (first | exact HS0.out | (with_reducible refine Kd.C_alloc ?_ _) | (with_reducible refine Kd.C_drewN ?_ _) | (with_reducible refine Kd.C_drew ?_))) HD0.out (by repeat (first | exact HS1.out | (with_reducible refine Kd.C_alloc ?_ _) | (with_reducible refine Kd.C_drewN ?_ _) | (with_reducible refine Kd.C_drew ?_))) HD1.out).mono ?_
  rintro e w1 ⟨v0, v1, rfl, ho0, ho1, hb⟩
  obtain ⟨b0, b1, b2, hB⟩ := blks3 _ _ _ _ _ hb
  obtain ⟨A2, c2, rfl, _⟩ := ho0.slice
  obtain ⟨A3, c3, rfl, _⟩ := ho1.slice
  have HB := Aside0.mk hB
  have B2 := Aside0.mk b2
  have HO0 := Aside0.mk ho0
  have HO1 := Aside0.mk ho1
  have hc0 : w1.cell? ⟨w.heap.size + 1 + 1, 0, none⟩ = some (.slice none 0 0) := (blk_cell b2 0).trans rfl
  have hc1 : w1.cell? ⟨w.heap.size + 1 + 1, 1, none⟩ = some (.slice none 0 0) := (blk_cell b2 1).trans rfl
  have hf0 := blk_frozen b2 0
  have hf1 := blk_frozen b2 1
  clear hb b0 b1 b2 hB ho0 ho1
  go_wp2_with fail
  refine bodyPost_ret (results_ct rfl _ _ (w.heap.size + 1 + 1) 29 #[_, _] (0, 0) _ rfl (blk_put (cs := #[_, .slice none 0 0]) (blk_put (cs := #[.slice none 0 0, .slice none 0 0]) B2.out 0 _ rfl) 1 _ rfl) Try.underlying29 rfl (by kernel_rfl)) rfl ?_
  exact ⟨_, _, rfl, Own.lower (Own.set (Own.set HO0.out (by simp) _ _) (by simp) _ _) (by simp; omega), Own.lower (Own.set (Own.set HO1.out (by simp) _ _) (by simp) _ _) (by simp; omega), below_set (below_set HB.out (by omega)) (by omega)⟩

theorem blk1 (w : World) (o1 : Obj) (w1 : World) (hb : Below (w.alloc o1).heap.size (w.alloc o1) w1) : w1.heap[w.heap.size]? = some o1 ∧ Below w.heap.size w w1 :=
  ⟨blk_below (blk_new w o1) hb, below_step (by repeat (first | exact Below.refl _ _ | apply pw_below_drewN | apply below_drew1 | apply below_alloc)) hb⟩

/-! ### wrappers of what is printed -/
def countB (n : Int) : Bool := decide (0 ≤ n) && decide (n ≤ 300)
theorem isCount_any (n : Int) (w : World) : Calls Try.prog 59 #[.int .i64 n] w fun e w' => e = .returned (.bool (countB n)) ∧ Drawn0 w w' := by
  refine PAll.bits_isCount.calls n _ w ?_
  unfold PAll.bits_isCount.f countB
  by_cases h : 0 ≤ n
  · rw [if_pos h]; simp [h]
  · rw [if_neg h]; simp [h]
def upTo (n : Int) : List Int := (List.range n.toNat).map fun k : Nat => (k : Int) + 1
theorem all_l0 (n : Int) (hn : n ≤ 300) : ∀ (d i : Nat), n.toNat - i = d → i ≤ n.toNat → PAll.bits_all.l0 (d + 1) ((List.range i).map fun k : Nat => (k : Int) + 1) n (i : Int) = some (upTo n) := by
  intro d
  induction d with
  | zero =>
    intro i hd hi
    rw [PAll.bits_all.l0, if_neg (by omega), show i = n.toNat by omega]
    rfl
  | succ d ih =>
    intro i hd hi
    rw [PAll.bits_all.l0, if_pos (by omega), if_pos (by simp; omega), wrap_id (by omega) (by omega)]
    have := ih (i + 1) (by omega) (by omega)
    rw [List.range_succ, List.map_append] at this
    simpa using this
theorem all_any (n : Int) (hn : n ≤ 300) (w : World) : Calls Try.prog 60 #[.int .i64 n] w fun e w' => ∃ v : Value, e = .returned v ∧ Own w' w.heap.size v (upTo n) ∧ Below w.heap.size w w' := by
  refine PAll.bits_all.calls (n.toNat - 0 + 1) n (upTo n) w ?_
  exact all_l0 n hn _ 0 rfl (by omega)
theorem upTo_length (n : Int) : (upTo n).length = n.toNat := by simp [upTo]

def notE (l0 l1 : List Int) (n : Int) : Int := if valE l0 l1 = 0 then (if countB n = true ∧ setB n l1 = true then 0 else 1) else valE l0 l1
def notL (l0 l1 : List Int) (n : Int) (l : List Int) : List Int := if notE l0 l1 n = 0 then lessF (upTo n) l else []
theorem valE_len {l0 l1 : List Int} (h : valE l0 l1 = 0) : l0.length ≤ 300 ∧ l1.length ≤ 300 := by
  unfold valE at h
  split at h
  · rename_i h3
    exact ⟨setB_length h3.1, setB_length h3.2.1⟩
  · simp at h

set_option maxHeartbeats 4000000 in
set_option maxRecDepth 100000 in
theorem Not_any (A0 : Option Addr) (c0 : Nat) (l0 : List Int) (A1 : Option Addr) (c1 : Nat) (l1 : List Int) (n : Int) (w : World)
    (hr0 : Kd.C (Kd.int .i64) w A0 l0.length l0) (hc0 : l0.length ≤ c0) (hr1 : Kd.C (Kd.int .i64) w A1 l1.length l1) (hc1 : l1.length ≤ c1) :
    Calls Try.prog 26 #[.agg #[.slice A0 l0.length c0, .slice A1 l1.length c1], .int .i64 n] w fun e w' => ∃ v0 v1 : Value,
      e = .returned (.tuple #[.agg #[v0, v1], .int .i64 (notE l0 l1 n)]) ∧ Own w' w.heap.size v0 (notL l0 l1 n l1) ∧ Own w' w.heap.size v1 (notL l0 l1 n l0) ∧ Below w.heap.size w w' := by
  have HR0 := Aside0.mk hr0
  have HC0 := Aside0.mk hc0
  have HR1 := Aside0.mk hr1
  have HC1 := Aside0.mk hc1
  clear hr0 hc0 hr1 hc1
  have hu29 := Try.underlying29
  go_enter Try.func26, Try.ntmps26
  by_cases hv : valE l0 l1 = 0
  · have HV := Aside0.mk hv
    have hv1 : (valE l0 l1 == 0) = true := by simpa using hv
    have hv2 : (valE l0 l1 != 0) = false := by simpa using hv
    have HN := Aside0.mk (valE_len hv)
    clear hv
    go_wp2_with fail
    refine (Validate_any A0 c0 l0 A1 c1 l1 _ (by repeat (first | exact HR0.out | (with_reducible refine Kd.C_alloc ?_ _) | (with_reducible refine Kd.C_drewN ?_ _) | (with_reducible refine Kd.C_drew ?_))) HC0.out (by repeat (first | exact HR1.out | (with_reducible refine Kd.C_alloc ?_ _) | (with_reducible refine Kd.C_drewN ?_ _) | (with_reducible refine Kd.C_drew ?_))) HC1.out).mono ?_
    rintro e w1 ⟨rfl, hb⟩
    obtain ⟨b0, b1, hB⟩ := blks2 _ _ _ _ hb
    have HB := Aside0.mk hB
    have B0 := Aside0.mk b0
    have B1 := Aside0.mk b1
    clear hb b0 b1 hB
    by_cases hcn : countB n = true
    · have HCN := Aside0.mk hcn
      clear hcn
      go_wp2_with fail
      refine (isCount_any n _).mono ?_
      rintro e w2 ⟨rfl, ⟨nd, rfl⟩⟩
      simp only [HCN.out]
      have hc1 : w1.cell? ⟨w.heap.size, 1, none⟩ = some (.slice A1 l1.length c1) := (blk_cell B0.out 1).trans rfl
      go_wp2_with fail
      refine (isSet_any A1 c1 l1 n _ (Kd.C_below HR1.out (pw_below_drewN HB.out _)) HC1.out).mono ?_
      rintro e w2 ⟨rfl, ⟨nd2, rfl⟩⟩
      clear hc1
      cases hsb : setB n l1
      · have HSB := Aside0.mk hsb
        clear hsb
        have hc0 : w1.cell? ⟨w.heap.size + 1, 0, none⟩ = some (.slice none 0 0) := (blk_cell B1.out 0).trans rfl
        have hc1 : w1.cell? ⟨w.heap.size + 1, 1, none⟩ = some (.slice none 0 0) := (blk_cell B1.out 1).trans rfl
        have hf0 := blk_frozen B1.out 0
        have hf1 := blk_frozen B1.out 1
        go_wp2_with fail
        refine bodyPost_ret (results_ct rfl _ _ (w.heap.size + 1) 29 #[.slice none 0 0, .slice none 0 0] (0, 0) _ rfl (blk_put (cs := #[.slice none 0 0, .slice none 0 0]) (blk_put (cs := #[.slice none 0 0, .slice none 0 0]) (blk_drewN B1.out _) 0 _ rfl) 1 _ rfl) Try.underlying29 rfl (by kernel_rfl)) rfl ?_
        refine ⟨.slice none 0 0, .slice none 0 0, by rw [notE, if_pos HV.out, if_neg (by simp [HSB.out])]; rfl, ?_, ?_, ?_⟩
        · rw [notL, notE, if_pos HV.out, if_neg (show ¬ (countB n = true ∧ setB n l1 = true) by simp [HSB.out]), if_neg (by omega)]; exact Own.nil _ _
        · rw [notL, notE, if_pos HV.out, if_neg (show ¬ (countB n = true ∧ setB n l1 = true) by simp [HSB.out]), if_neg (by omega)]; exact Own.nil _ _
        · exact below_set (below_set (pw_below_drewN HB.out _) (by omega)) (by omega)
      · have HSB := Aside0.mk hsb
        clear hsb
        have HE : Aside0 (notE l0 l1 n = 0) := ⟨by rw [notE, if_pos HV.out, if_pos ⟨HCN.out, HSB.out⟩]⟩
        have hn3 : n ≤ 300 := by have := HCN.out; simp [countB] at this; omega
        have HN3 := Aside0.mk hn3
        clear hn3
        have hc0 : w1.cell? ⟨w.heap.size, 0, none⟩ = some (.slice A0 l0.length c0) := (blk_cell B0.out 0).trans rfl
        have hc1 : w1.cell? ⟨w.heap.size, 1, none⟩ = some (.slice A1 l1.length c1) := (blk_cell B0.out 1).trans rfl
        go_wp2_with fail
        refine wp_region_segs (by kernel_rfl) [(false, [0, 2, 5, 7, 3, 8]), (true, [1]), (true, [4]), (true, [6]), (false, [9, 10, 11, 12])] (by decide) (by kernel_rfl) ?_
        simp only [wpSegs, pickOps, List.getElem?_toArray, List.getElem?_cons_succ, List.getElem?_cons_zero, Bool.false_eq_true, false_implies, true_and, forall_const]
        go_wp2_with fail
        refine (all_any n HN3.out _).mono ?_
        rintro e w3 ⟨v, rfl, ho, hb⟩
        have HX := Aside0.mk (ext_of_below hb)
        have B13 := Aside0.mk (blk_below (blk_drew (blk_drewN B1.out _)) hb)
        have HB3 := Aside0.mk (below_step (below_drew1 (pw_below_drewN HB.out _)) hb)
        obtain ⟨A2, c2, rfl, hq2, hk2⟩ := ho.slice
        clear hc0 hc1 ho hb
        have HU := Aside0.mk (And.intro hq2 hk2)
        clear hq2 hk2
        have HUL := Aside0.mk (upTo_length n)
        go_wp2_with fail
        refine ⟨HX.out, ?_⟩
        go_wp2_with fail
        refine (joined_calls 50 (fun a b => a && !b) enters50 inFirst_any A2 c2 (upTo n) A1 c1 l1 _ HU.out.2 HU.out.1 (Kd.C_below HR1.out HB3.out) HC1.out (by have := HUL.out; have := HN3.out; omega) (by have := HN.out; omega)).mono ?_
        rintro e w4 ⟨v0, rfl, ho, hb⟩
        have HX4 := Aside0.mk (ext_of_below hb)
        have B14 := Aside0.mk (blk_below B13.out hb)
        have HB4 := Aside0.mk (below_step HB3.out hb)
        have HO0 : Aside0 (Own w4 w3.heap.size v0 (lessF (upTo n) l1)) := ⟨ho⟩
        have HL3 := Aside0.mk (blk_lt B13.out)
        obtain ⟨A3, c3, rfl, _⟩ := HO0.out.slice
        clear ho hb
        go_wp2_with fail
        refine ⟨HX4.out, ?_⟩
        go_wp2_with fail
        refine (all_any n HN3.out _).mono ?_
        rintro e w5 ⟨v, rfl, ho, hb⟩
        have HX5 := Aside0.mk (ext_of_below hb)
        have B15 := Aside0.mk (blk_below B14.out hb)
        have HB5 := Aside0.mk (below_step HB4.out hb)
        have HO05 := Aside0.mk (HO0.out.below hb)
        obtain ⟨A4, c4, rfl, hq2, hk2⟩ := ho.slice
        clear ho hb
        have HU5 := Aside0.mk (And.intro hq2 hk2)
        clear hq2 hk2
        go_wp2_with fail
        refine ⟨HX5.out, ?_⟩
        go_wp2_with fail
        refine (joined_calls 50 (fun a b => a && !b) enters50 inFirst_any A4 c4 (upTo n) A0 c0 l0 _ HU5.out.2 HU5.out.1 (Kd.C_below HR0.out HB5.out) HC0.out (by have := HUL.out; have := HN3.out; omega) (by have := HN.out; omega)).mono ?_
        rintro e w6 ⟨v1, rfl, ho, hb⟩
        have B16 := Aside0.mk (blk_below B15.out hb)
        have HB6 := Aside0.mk (below_step HB5.out hb)
        have HO06 := Aside0.mk (HO05.out.below hb)
        have HO1 : Aside0 (Own w6 w5.heap.size v1 (lessF (upTo n) l0)) := ⟨ho⟩
        have HL5 := Aside0.mk (blk_lt B15.out)
        obtain ⟨A5, c5, rfl, _⟩ := HO1.out.slice
        clear ho hb
        have hc0 : w6.cell? ⟨w.heap.size + 1, 0, none⟩ = some (.slice none 0 0) := (blk_cell B16.out 0).trans rfl
        have hc1 : w6.cell? ⟨w.heap.size + 1, 1, none⟩ = some (.slice none 0 0) := (blk_cell B16.out 1).trans rfl
        have hf0 := blk_frozen B16.out 0
        have hf1 := blk_frozen B16.out 1
        go_wp2_with fail
        refine ⟨rfl, by kernel_rfl, ?_⟩
        go_wp2_with fail
        refine bodyPost_ret (results_ct rfl _ _ (w.heap.size + 1) 29 #[_, _] (0, 0) _ rfl (blk_put (cs := #[_, .slice none 0 0]) (blk_put (cs := #[.slice none 0 0, .slice none 0 0]) B16.out 0 _ rfl) 1 _ rfl) Try.underlying29 rfl (by kernel_rfl)) rfl ?_
        refine ⟨_, _, by rw [HE.out]; rfl, ?_, ?_, ?_⟩
        · rw [notL, if_pos HE.out]; exact Own.lower (Own.set (Own.set HO06.out HL3.out _ _) HL3.out _ _) (by have := HL3.out; omega)
        · rw [notL, if_pos HE.out]; exact Own.lower (Own.set (Own.set HO1.out HL5.out _ _) HL5.out _ _) (by have := HL5.out; omega)
        · exact below_set (below_set HB6.out (by omega)) (by omega)
    · have HCN := Aside0.mk (Bool.eq_false_iff.mpr hcn)
      clear hcn
      go_wp2_with fail
      refine (isCount_any n _).mono ?_
      rintro e w2 ⟨rfl, ⟨nd, rfl⟩⟩
      simp only [HCN.out]
      have hc0 : w1.cell? ⟨w.heap.size + 1, 0, none⟩ = some (.slice none 0 0) := (blk_cell B1.out 0).trans rfl
      have hc1 : w1.cell? ⟨w.heap.size + 1, 1, none⟩ = some (.slice none 0 0) := (blk_cell B1.out 1).trans rfl
      have hf0 := blk_frozen B1.out 0
      have hf1 := blk_frozen B1.out 1
      go_wp2_with fail
      refine bodyPost_ret (results_ct rfl _ _ (w.heap.size + 1) 29 #[.slice none 0 0, .slice none 0 0] (0, 0) _ rfl (blk_put (cs := #[.slice none 0 0, .slice none 0 0]) (blk_put (cs := #[.slice none 0 0, .slice none 0 0]) (blk_drewN B1.out _) 0 _ rfl) 1 _ rfl) Try.underlying29 rfl (by kernel_rfl)) rfl ?_
      refine ⟨.slice none 0 0, .slice none 0 0, by rw [notE, if_pos HV.out, if_neg (by simp [HCN.out])]; rfl, ?_, ?_, ?_⟩
      · rw [notL, notE, if_pos HV.out, if_neg (show ¬ (countB n = true ∧ setB n l1 = true) by simp [HCN.out]), if_neg (by omega)]; exact Own.nil _ _
      · rw [notL, notE, if_pos HV.out, if_neg (show ¬ (countB n = true ∧ setB n l1 = true) by simp [HCN.out]), if_neg (by omega)]; exact Own.nil _ _
      · exact below_set (below_set (pw_below_drewN HB.out _) (by omega)) (by omega)
  · have HV := Aside0.mk hv
    have hv1 : (valE l0 l1 == 0) = false := by simpa using hv
    have hv2 : (valE l0 l1 != 0) = true := by simpa using hv
    clear hv
    go_wp2_with fail
    refine (Validate_any A0 c0 l0 A1 c1 l1 _ (by repeat (first | exact HR0.out | (with_reducible refine Kd.C_alloc ?_ _) | (with_reducible refine Kd.C_drewN ?_ _) | (with_reducible refine Kd.C_drew ?_))) HC0.out (by repeat (first | exact HR1.out | (with_reducible refine Kd.C_alloc ?_ _) | (with_reducible refine Kd.C_drewN ?_ _) | (with_reducible refine Kd.C_drew ?_))) HC1.out).mono ?_
    rintro e w1 ⟨rfl, hb⟩
    obtain ⟨b0, b1, hB⟩ := blks2 _ _ _ _ hb
    have HB := Aside0.mk hB
    have B1 := Aside0.mk b1
    have hc0 : w1.cell? ⟨w.heap.size + 1, 0, none⟩ = some (.slice none 0 0) := (blk_cell b1 0).trans rfl
    have hc1 : w1.cell? ⟨w.heap.size + 1, 1, none⟩ = some (.slice none 0 0) := (blk_cell b1 1).trans rfl
    have hf0 := blk_frozen b1 0
    have hf1 := blk_frozen b1 1
    clear hb b0 b1 hB
    go_wp2_with fail
    refine bodyPost_ret (results_ct rfl _ _ (w.heap.size + 1) 29 #[.slice none 0 0, .slice none 0 0] (0, 0) _ rfl (blk_put (cs := #[.slice none 0 0, .slice none 0 0]) (blk_put (cs := #[.slice none 0 0, .slice none 0 0]) B1.out 0 _ rfl) 1 _ rfl) Try.underlying29 rfl (by kernel_rfl)) rfl ?_
    refine ⟨.slice none 0 0, .slice none 0 0, by rw [notE, if_neg HV.out]; rfl, ?_, ?_, ?_⟩
    · rw [notL, notE, if_neg HV.out, if_neg HV.out]; exact Own.nil _ _
    · rw [notL, notE, if_neg HV.out, if_neg HV.out]; exact Own.nil _ _
    · exact below_set (below_set HB.out (by omega)) (by omega)
end Go.Proofs.Ytpbdlkbiiglkdaa

/- Clone, Known, Settle, Doubt, True. -/
set_option linter.unusedVariables false
set_option linter.unusedSimpArgs false
namespace Go.Proofs.Ytpbdlkbiiglkdaa
open Go.RowKit Go.Proofs.YtpbdlkbiiglkdaaW.PrintWords Go.Proofs.YtpbdlkbiiglkdaaW.PrintLast Go.Proofs.YtpbdlkbiiglkdaaW.PrintMore Go.Proofs.Cab

section
variable {ops : Array Oper} {rest : List Oper} {o : Oper} {a : Act} {Q : Exit → Act → World → Prop}
/-- append(v, ys...) on a row of ints of the call's own. -/
theorem appRow {w0 W : World} (base : Nat) (hgd : o.guard = none) (s x : Operand) (ho : o.op = .call { callee := .builtin .append, args := #[s, x], argTypes := #[22, 22] })
    (v : Value) (xs ys : List Int) (A : Option Addr) (m c : Nat) (hs : a.eval s = v) (hx : a.eval x = .slice A m c) (HO : Own W base v xs) (HR : Kd.C (Kd.int .i64) W A m ys) (HB : Below base w0 W) (hbase : base ≤ W.heap.size) (hl : xs.length + m < 17592186044415)
    (h : ∀ v1 w1, Own w1 base v1 (xs ++ ys) → Below base w0 w1 → wpList Try.prog ops Q rest (a.put o.dst v1) w1) : wpList Try.prog ops Q (o :: rest) a W :=
  Kd.R_append_row (Value.int .i64) 0 (w0 := w0) base hgd s x 22 3 (.int .i64 0) 8 ho Try.underlying22 info3 rfl (by decide) v xs ys A m c (fun _ => True) hs hx (fun _ _ => trivial) HO HR HB hbase (by omega)
    fun v1 w1 ho hb _ _ => h v1 w1 ho hb
end
theorem own_empty (W : World) (n : Nat) (hn : n ≤ W.heap.size) : Own (W.alloc (.cells #[] 3)) n (.slice (some ⟨W.heap.size, 0, none⟩) 0 0) [] := by
  have := own_lit W n 3 .i64 [] hn (by simp)
  exact Kd.R_of_own (by simpa [nums, encs] using this) (fun _ _ => trivial)

theorem eqNil (A : Option Addr) (n c : Nat) (W : World) : (binOp .eql 22 (.slice A n c) (.slice none 0 0)).run Try.prog W = .ok (.bool A.isNone) W := by
  simp only [binOp]
  simp [run_equal_slice_nil W 22 3 A n c Try.underlying22]
set_option maxHeartbeats 4000000 in
set_option maxRecDepth 100000 in
theorem Clone_any (A0 : Option Addr) (c0 : Nat) (l0 : List Int) (w : World) (hr0 : Kd.C (Kd.int .i64) w A0 l0.length l0) (hc0 : l0.length ≤ c0) (hn : l0.length ≤ 3000) :
    Calls Try.prog 64 #[.slice A0 l0.length c0] w fun e w' => ∃ v : Value, e = .returned v ∧ Own w' w.heap.size v l0 ∧ Below w.heap.size w w' := by
  have HR0 := Aside0.mk hr0
  have HC0 := Aside0.mk hc0
  clear hr0 hc0
  have hu22 := Try.underlying22
  have hnil := eqNil A0 l0.length c0
  go_enter Try.func64, Try.ntmps64
  cases A0 with
  | none =>
    simp only [Option.isNone_none] at hnil
    have h0 : l0 = [] := by
      rcases Nat.eq_zero_or_pos l0.length with h | h
      · exact List.eq_nil_of_length_eq_zero h
      · obtain ⟨ad, he, _⟩ := HR0.out.2.2 h
        cases he
    have H0 := Aside0.mk h0
    clear h0
    go_wp2_with fail
    go_ret
    exact ⟨_, rfl, by rw [H0.out]; exact Own.nil _ _, Below.refl _ _⟩
  | some ad =>
    simp only [Option.isNone_some] at hnil
    go_wp2_with (at_builtin; refine appRow (w0 := w) w.heap.size rfl _ _ rfl _ [] l0 _ l0.length c0 rfl rfl (own_empty w _ (Nat.le_refl _)) (by repeat (first | exact HR0.out | (with_reducible refine Kd.C_alloc ?_ _) | (with_reducible refine Kd.C_drewN ?_ _) | (with_reducible refine Kd.C_drew ?_))) (by repeat (first | exact Below.refl _ _ | apply pw_below_drewN | apply below_drew1 | apply below_alloc)) (by simp) (by simp; omega) ?_; intro v1 w1 ho hb; have HO1 := Aside0.mk ho; have HB1 := Aside0.mk hb; clear ho hb)
    go_ret
    exact ⟨_, rfl, HO1.out, HB1.out⟩

def knownE (l : List Int) : Int := if setB 300 l = true then 0 else 1
def knownL (l : List Int) : List Int := if setB 300 l = true then l else []
set_option maxHeartbeats 4000000 in
set_option maxRecDepth 100000 in
theorem Known_any (A0 : Option Addr) (c0 : Nat) (l0 : List Int) (w : World) (hr0 : Kd.C (Kd.int .i64) w A0 l0.length l0) (hc0 : l0.length ≤ c0) :
    Calls Try.prog 37 #[.slice A0 l0.length c0] w fun e w' => ∃ v0 v1 : Value, e = .returned (.tuple #[.agg #[v0, v1], .int .i64 (knownE l0)]) ∧ Own w' w.heap.size v0 (knownL l0) ∧ Own w' w.heap.size v1 (knownL l0) ∧ Below w.heap.size w w' := by
  have HR0 := Aside0.mk hr0
  have HC0 := Aside0.mk hc0
  clear hr0 hc0
  have hu29 := Try.underlying29
  go_enter Try.func37, Try.ntmps37
  cases hs : setB 300 l0
  · have HS := Aside0.mk hs
    clear hs
    go_wp2_with fail
    refine (isSet_any A0 c0 l0 300 _ (by repeat (first | exact HR0.out | (with_reducible refine Kd.C_alloc ?_ _) | (with_reducible refine Kd.C_drewN ?_ _) | (with_reducible refine Kd.C_drew ?_))) HC0.out).mono ?_
    rintro e w1 ⟨rfl, ⟨nd, rfl⟩⟩
    simp only [HS.out]
    go_wp2_with fail
    refine bodyPost_ret (results_ct rfl _ _ (w.heap.size) 29 #[.slice none 0 0, .slice none 0 0] (0, 0) _ rfl (blk_put (cs := #[.slice none 0 0, .slice none 0 0]) (blk_put (cs := #[.slice none 0 0, .slice none 0 0]) (blk_drewN (blk_new w _) _) 0 _ rfl) 1 _ rfl) Try.underlying29 rfl (by kernel_rfl)) rfl ?_
    refine ⟨.slice none 0 0, .slice none 0 0, by rw [knownE, if_neg (by simp [HS.out])]; rfl, ?_, ?_, ?_⟩
    · simp only [knownL, HS.out]; exact Own.nil _ _
    · simp only [knownL, HS.out]; exact Own.nil _ _
    · exact below_set (below_set (by repeat (first | exact Below.refl _ _ | apply pw_below_drewN | apply below_drew1 | apply below_alloc)) (by omega)) (by omega)
  · have HS := Aside0.mk hs
    clear hs
    have HN := Aside0.mk (setB_length HS.out)
    go_wp2_with fail
    refine (isSet_any A0 c0 l0 300 _ (by repeat (first | exact HR0.out | (with_reducible refine Kd.C_alloc ?_ _) | (with_reducible refine Kd.C_drewN ?_ _) | (with_reducible refine Kd.C_drew ?_))) HC0.out).mono ?_
    rintro e w1 ⟨rfl, ⟨nd, rfl⟩⟩
    simp only [HS.out]
    go_wp2_with fail
    refine (Clone_any A0 c0 l0 _ (by repeat (first | exact HR0.out | (with_reducible refine Kd.C_alloc ?_ _) | (with_reducible refine Kd.C_drewN ?_ _) | (with_reducible refine Kd.C_drew ?_))) HC0.out (by have := HN.out; omega)).mono ?_
    rintro e w1 ⟨v0, rfl, ho, hb⟩
    have hb' : Below (w.alloc (.cells #[.slice none 0 0, .slice none 0 0] 29)).heap.size (w.alloc (.cells #[.slice none 0 0, .slice none 0 0] 29)) w1 := ⟨hb.os, hb.tape, hb.output, hb.size, hb.block⟩
    obtain ⟨b0, hB⟩ := blk1 _ _ _ hb'
    have B0 := Aside0.mk b0
    have HB := Aside0.mk hB
    have HO : Aside0 (Own w1 (w.heap.size + 1) v0 l0) := ⟨by simpa using ho⟩
    obtain ⟨A2, c2, rfl, _⟩ := HO.out.slice
    clear hb hb' b0 hB ho
    go_wp2_with fail
    refine (Clone_any A0 c0 l0 _ (Kd.C_below HR0.out HB.out) HC0.out (by have := HN.out; omega)).mono ?_
    rintro e w2 ⟨v1, rfl, ho, hb⟩
    have B02 := Aside0.mk (blk_below B0.out hb)
    have HB2 := Aside0.mk (below_step HB.out hb)
    have HO2 := Aside0.mk (HO.out.below hb)
    have HP2 : Aside0 (Own w2 (w.heap.size + 1) v1 l0) := ⟨Own.lower ho (blk_lt B0.out)⟩
    obtain ⟨A3, c3, rfl, _⟩ := HP2.out.slice
    clear hb ho
    have hc0 : w2.cell? ⟨w.heap.size, 0, none⟩ = some (.slice none 0 0) := (blk_cell B02.out 0).trans rfl
    have hc1 : w2.cell? ⟨w.heap.size, 1, none⟩ = some (.slice none 0 0) := (blk_cell B02.out 1).trans rfl
    have hf0 := blk_frozen B02.out 0
    have hf1 := blk_frozen B02.out 1
    go_wp2_with fail
    refine bodyPost_ret (results_ct rfl _ _ (w.heap.size) 29 #[_, _] (0, 0) _ rfl (blk_put (cs := #[_, .slice none 0 0]) (blk_put (cs := #[.slice none 0 0, .slice none 0 0]) B02.out 0 _ rfl) 1 _ rfl) Try.underlying29 rfl (by kernel_rfl)) rfl ?_
    refine ⟨_, _, by rw [knownE, if_pos HS.out]; rfl, ?_, ?_, ?_⟩
    · simp only [knownL, HS.out, if_true]; exact Own.lower (Own.set (Own.set HO2.out (by omega) _ _) (by omega) _ _) (by omega)
    · simp only [knownL, HS.out, if_true]; exact Own.lower (Own.set (Own.set HP2.out (by omega) _ _) (by omega) _ _) (by omega)
    · exact below_set (below_set HB2.out (by omega)) (by omega)
end Go.Proofs.Ytpbdlkbiiglkdaa

/- BinarySearch, Shift. -/
set_option linter.unusedVariables false
set_option linter.unusedSimpArgs false
namespace Go.Proofs.Ytpbdlkbiiglkdaa
open Go.RowKit Go.Proofs.YtpbdlkbiiglkdaaW.PrintWords Go.Proofs.YtpbdlkbiiglkdaaW.PrintLast Go.Proofs.YtpbdlkbiiglkdaaW.PrintMore Go.Proofs.Cab

theorem isNaN_any (x : Int) (w : World) : Calls Try.prog 75 #[.int .i64 x] w fun e w' => e = .returned (.bool false) ∧ w = w' := by
  go_enter Try.func75, Try.ntmps75
  go_wp2
  go_ret
  exact ⟨by simp, rfl⟩
theorem isNaN2_any (x : Int) (w : World) : Calls Try.prog 74 #[.int .i64 x] w fun e w' => e = .returned (.bool false) ∧ w = w' := by
  go_enter Try.func74, Try.ntmps74
  go_wp2
  go_ret
  exact ⟨by simp, rfl⟩
theorem Less_any (x y : Int) (w : World) : Calls Try.prog 73 #[.int .i64 x, .int .i64 y] w fun e w' => e = .returned (.bool (decide (x < y))) ∧ w = w' := by
  go_enter Try.func73, Try.ntmps73
  go_wp2_with fail
  refine (isNaN_any x _).mono ?_
  rintro e w' ⟨rfl, rfl⟩
  go_wp2_with fail
  go_ret
  exact ⟨by simp, rfl⟩

/-- Where a number stands in an ascending list. -/
def BSPost (l0 : List Int) (t : Int) (w : World) (e : Ending) (w' : World) : Prop :=
  ∃ (i : Nat) (b : Bool), e = .returned (.tuple #[.int .i64 (i : Int), .bool b]) ∧ i ≤ l0.length ∧ (∀ k (h : k < l0.length), k < i → l0[k] < t) ∧ (∀ k (h : k < l0.length), i ≤ k → t ≤ l0[k]) ∧ w = w'
set_option maxHeartbeats 4000000 in
set_option maxRecDepth 100000 in
theorem BinarySearch_any (A0 : Option Addr) (c0 : Nat) (l0 : List Int) (t : Int) (w : World) (hr0 : Kd.C (Kd.int .i64) w A0 l0.length l0) (hc0 : l0.length ≤ c0) (hn : l0.length ≤ 3000) (hs : l0.Pairwise (· < ·)) :
    Calls Try.prog 71 #[.slice A0 l0.length c0, .int .i64 t] w (BSPost l0 t w) := by
  have HR0 := Aside0.mk hr0
  have HC0 := Aside0.mk hc0
  clear hr0 hc0
  have HS := Aside0.mk hs
  clear hs
  go_enter Try.func71, Try.ntmps71
  go_wp2
  go_loop [7, 8] (fun v7 v8 => ∃ i j : Nat, v7 = .int .i64 (i : Int) ∧ v8 = .int .i64 (j : Int) ∧ i ≤ j ∧ j ≤ l0.length ∧ Aside0 (∀ k (h : k < l0.length), k < i → l0[k] < t) ∧ Aside0 (∀ k (h : k < l0.length), j ≤ k → t ≤ l0[k])) (fun v7 v8 => (intOf v8 - intOf v7).toNat)
  case atStart => exact ⟨0, l0.length, rfl, rfl, by omega, by omega, ⟨fun k h hk => by omega⟩, ⟨fun k h hk => by omega⟩⟩
  case round =>
    obtain ⟨i, j, rfl, rfl, hij, hj, HL, HG⟩ := hrel
    by_cases hlt : i < j
    · have p0 : 0 ≤ ((i : Int) + j) / 2 := by omega
      have q0 : ((i : Int) + j) / 2 < (l0.length : Int) := by omega
      obtain ⟨ad, rfl, hcell⟩ := Kd.at_int HR0.out (((i : Int) + j) / 2) p0 q0
      obtain ⟨m, hm⟩ : ∃ m : Nat, ((i : Int) + j) / 2 = (m : Int) := ⟨(((i : Int) + j) / 2).toNat, by omega⟩
      have HM := Aside0.mk (show i ≤ m ∧ m < j by omega)
      have HMe := Aside0.mk hm
      have hml : m < l0.length := by omega
      have hrd : rd l0 (((i : Int) + j) / 2) = l0[m] := by rw [hm]; exact rd_at l0 m hml
      rw [hrd, show (((i : Int) + j) / 2).toNat = (i + j) / 2 by omega] at hcell
      have HS' : Aside0 (∀ a b (ha : a < l0.length) (hb : b < l0.length), a < b → l0[a] < l0[b]) := ⟨fun a b ha hb h => List.pairwise_iff_getElem.1 HS.out a b ha hb h⟩
      clear hm hrd
      by_cases hc : l0[m] < t
      · have hcd : decide (l0[m] < t) = true := by simpa using hc
        have HC := Aside0.mk hc
        clear hc
        go_wp2_with fail
        refine (Less_any _ _ _).mono ?_
        rintro e w' ⟨rfl, rfl⟩
        simp only [hcd]
        go_wp2_with fail
        go_round
        case rel => exact ⟨m + 1, j, by rw [HMe.out]; rfl, rfl, by have := HM.out; omega, hj, ⟨fun k h hk => by
          rcases Nat.lt_or_ge k m with h1 | h1
          · exact Int.lt_trans (HS'.out k m h hml h1) HC.out
          · obtain rfl : k = m := by omega
            exact HC.out⟩, HG⟩
        case measure => simp [intOf]; have := HM.out; have := HMe.out; omega
      · have hcd : decide (l0[m] < t) = false := by simpa using hc
        have HC := Aside0.mk (Int.not_lt.1 hc)
        clear hc
        go_wp2_with fail
        refine (Less_any _ _ _).mono ?_
        rintro e w' ⟨rfl, rfl⟩
        simp only [hcd]
        go_wp2_with fail
        go_round
        case rel => exact ⟨i, m, rfl, by rw [HMe.out], by have := HM.out; omega, by omega, HL, ⟨fun k h hk => by
          rcases Nat.lt_or_ge m k with h1 | h1
          · exact Int.le_trans HC.out (Int.le_of_lt (HS'.out m k hml h h1))
          · obtain rfl : k = m := by omega
            exact HC.out⟩⟩
        case measure => simp [intOf]; have := HM.out; have := HMe.out; omega
    · obtain rfl : i = j := by omega
      by_cases hin : i < l0.length
      · obtain ⟨ad, rfl, hcell⟩ := Kd.at_int HR0.out (i : Int) (by omega) (by omega)
        rw [rd_at l0 i hin] at hcell
        have hcell : w.cell? (ad.add i) = some (.int .i64 l0[i]) := by simpa using hcell
        obtain ⟨y, hy⟩ : ∃ y, l0[i] = y := ⟨_, rfl⟩
        rw [hy] at hcell
        clear hy
        by_cases he : y = t
        · have he1 : (y == t) = true := by simpa using he
          clear he
          go_wp2_with fail
          go_ret2
          exact ⟨i, true, rfl, hj, HL.out, HG.out, rfl⟩
        · have he1 : (y == t) = false := by simpa using he
          clear he
          go_wp2_with fail

          refine (isNaN2_any _ _).mono ?_
          rintro e w' ⟨rfl, rfl⟩
          go_wp2_with fail
          go_ret2
          exact ⟨i, false, rfl, hj, HL.out, HG.out, rfl⟩
      · have hge : decide ((i : Int) < (l0.length : Int)) = false := by simp; omega
        go_wp2_with fail
        go_ret2
        exact ⟨i, false, rfl, hj, HL.out, HG.out, rfl⟩
theorem enters70 : ∀ args W, (callFunc 70 args).run Try.prog W = .ok (.enter 70 args) W := Go.Proofs.YtpbdlkbiiglkdaaW.PrintLast.enters_ Try.func70 (by kernel_rfl) rfl
/-- How many elements are less. -/
def below (l : List Int) (x : Int) : Nat := (l.filter (fun y => decide (y < x))).length
theorem below_of {l : List Int} {x : Int} {i : Nat} (hi : i ≤ l.length) (h1 : ∀ k (h : k < l.length), k < i → l[k] < x) (h2 : ∀ k (h : k < l.length), i ≤ k → x ≤ l[k]) : below l x = i := by
  have e : l = l.take i ++ l.drop i := (List.take_append_drop i l).symm
  unfold below
  rw [e, List.filter_append, List.length_append]
  have a : (l.take i).filter (fun y => decide (y < x)) = l.take i := by
    rw [List.filter_eq_self]
    intro y hy
    obtain ⟨k, hk, rfl⟩ := List.mem_iff_getElem.1 hy
    simp only [List.getElem_take, decide_eq_true_eq]
    rw [List.length_take] at hk
    exact h1 k (by omega) (by omega)
  have b : (l.drop i).filter (fun y => decide (y < x)) = [] := by
    rw [List.filter_eq_nil_iff]
    intro y hy
    obtain ⟨k, hk, rfl⟩ := List.mem_iff_getElem.1 hy
    simp only [List.getElem_drop, decide_eq_true_eq]
    rw [List.length_drop] at hk
    have := h2 (i + k) (by omega) (by omega)
    omega
  rw [a, b, List.length_take]
  simp
  omega
set_option maxHeartbeats 4000000 in
set_option maxRecDepth 100000 in
theorem moved_any (B : Nat) (A0 : Option Addr) (c0 : Nat) (l0 : List Int) (x : Int) (w : World) (hB : w.cell? ⟨B, 0, none⟩ = some (.slice A0 l0.length c0)) (hr0 : Kd.C (Kd.int .i64) w A0 l0.length l0) (hc0 : l0.length ≤ c0) (hn : l0.length ≤ 3000) (hs : l0.Pairwise (· < ·)) (hx : -10000 ≤ x ∧ x ≤ 10000) :
    Calls Try.prog 70 #[.int .i64 x, .pointer (some ⟨B, 0, none⟩)] w fun e w' => e = .returned (.int .i64 (x - below l0 x)) ∧ w = w' := by
  have HR0 := Aside0.mk hr0
  have HC0 := Aside0.mk hc0
  clear hr0 hc0
  have HS := Aside0.mk hs
  obtain ⟨hx1, hx2⟩ := hx
  clear hs
  go_enter Try.func70, Try.ntmps70
  go_wp2_with fail
  refine (BinarySearch_any A0 c0 l0 x _ HR0.out HC0.out hn HS.out).mono ?_
  rintro e w' ⟨i, b, rfl, hi, h1, h2, rfl⟩
  have HI := Aside0.mk (below_of hi h1 h2)
  have hi' : (i : Int) ≤ 3000 := by omega
  clear h1 h2
  go_wp2_with fail
  go_ret
  exact ⟨by rw [HI.out]; rfl, rfl⟩
end Go.Proofs.Ytpbdlkbiiglkdaa

/- Shift. -/
set_option linter.unusedVariables false
set_option linter.unusedSimpArgs false
namespace Go.Proofs.Ytpbdlkbiiglkdaa
open Go.RowKit Go.Proofs.YtpbdlkbiiglkdaaW.PrintWords Go.Proofs.YtpbdlkbiiglkdaaW.PrintLast Go.Proofs.YtpbdlkbiiglkdaaW.PrintMore Go.Proofs.Cab

set_option maxHeartbeats 4000000 in
set_option maxRecDepth 100000 in
theorem mover_any (A0 : Option Addr) (c0 : Nat) (l0 : List Int) (w : World) :
    Calls Try.prog 48 #[.slice A0 l0.length c0] w fun e w' => e = .returned (.func (.func 70) #[] #[.pointer (some ⟨w.heap.size, 0, none⟩)]) ∧ w.alloc (.cells #[.slice A0 l0.length c0] 22) = w' := by
  go_enter Try.func48, Try.ntmps48
  go_wp2
  go_ret
  exact ⟨rfl, rfl⟩

def shiftE (l g : List Int) : Int := if setB 300 l = true ∧ setB 300 g = true then 0 else 1
def shiftF (l g : List Int) : List Int := (lessF l g).map fun x => x - (below g x : Int)
def shiftL (l g : List Int) : List Int := if setB 300 l = true ∧ setB 300 g = true then shiftF l g else []
theorem setFrom_pairwise {n : Int} : ∀ {l : List Int} {p : Int}, setFrom n p l = true → l.Pairwise (· < ·)
  | [], p, h => List.Pairwise.nil
  | y :: l, p, h => by
    simp only [setFrom, Bool.and_eq_true, decide_eq_true_eq] at h
    exact List.pairwise_cons.2 ⟨fun x hx => (setFrom_mem h.2.2 x hx).1, setFrom_pairwise h.2.2⟩
theorem joinF_mem (f : Bool → Bool → Bool) : ∀ (n : Nat) (xs ys : List Int), xs.length + ys.length = n → ∀ z ∈ joinF f xs ys, z ∈ xs ∨ z ∈ ys := by
  intro n
  induction n using Nat.strongRecOn with
  | _ n ih =>
    intro xs ys hn z hz
    have one : ∀ (b : Bool) (x : Int), z ∈ (if b then [x] else []) → z = x := fun b x h => by cases b <;> simp at h; exact h
    cases xs with
    | nil =>
      cases ys with
      | nil => simp [joinF] at hz
      | cons y ys =>
        simp only [joinF, List.mem_append] at hz
        rcases hz with hz | hz
        · exact .inr (by rw [one _ _ hz]; simp)
        · rcases ih (n - 1) (by simp at hn; omega) [] ys (by simp at hn ⊢; omega) z hz with h | h
          · cases h
          · exact .inr (List.mem_cons_of_mem _ h)
    | cons x xs =>
      cases ys with
      | nil =>
        simp only [joinF, List.mem_append] at hz
        rcases hz with hz | hz
        · exact .inl (by rw [one _ _ hz]; simp)
        · rcases ih (n - 1) (by simp at hn; omega) xs [] (by simp at hn ⊢; omega) z hz with h | h
          · exact .inl (List.mem_cons_of_mem _ h)
          · cases h
      | cons y ys =>
        simp only [joinF] at hz
        split at hz
        · rcases List.mem_append.1 hz with hz | hz
          · exact .inl (by rw [one _ _ hz]; simp)
          · rcases ih (n - 1) (by simp at hn; omega) xs (y :: ys) (by simp at hn ⊢; omega) z hz with h | h
            · exact .inl (List.mem_cons_of_mem _ h)
            · exact .inr h
        · split at hz
          · rcases List.mem_append.1 hz with hz | hz
            · exact .inr (by rw [one _ _ hz]; simp)
            · rcases ih (n - 1) (by simp at hn; omega) (x :: xs) ys (by simp at hn ⊢; omega) z hz with h | h
              · exact .inl h
              · exact .inr (List.mem_cons_of_mem _ h)
          · rcases List.mem_append.1 hz with hz | hz
            · exact .inl (by rw [one _ _ hz]; simp)
            · rcases ih (n - 2) (by simp at hn; omega) xs ys (by simp at hn ⊢; omega) z hz with h | h
              · exact .inl (List.mem_cons_of_mem _ h)
              · exact .inr (List.mem_cons_of_mem _ h)
theorem lessF_range {l g : List Int} (hl : setB 300 l = true) (hg : setB 300 g = true) : ∀ z ∈ lessF l g, -10000 ≤ z ∧ z ≤ 10000 := by
  intro z hz
  rcases joinF_mem _ _ l g rfl z hz with h | h
  · have := setFrom_mem hl z h; omega
  · have := setFrom_mem hg z h; omega

set_option maxHeartbeats 4000000 in
set_option maxRecDepth 100000 in
theorem Shift_any (A0 : Option Addr) (c0 : Nat) (l0 : List Int) (A1 : Option Addr) (c1 : Nat) (l1 : List Int) (w : World)
    (hr0 : Kd.C (Kd.int .i64) w A0 l0.length l0) (hc0 : l0.length ≤ c0) (hr1 : Kd.C (Kd.int .i64) w A1 l1.length l1) (hc1 : l1.length ≤ c1) :
    Calls Try.prog 13 #[.slice A0 l0.length c0, .slice A1 l1.length c1] w fun e w' => ∃ v : Value, e = .returned (.tuple #[v, .int .i64 (shiftE l0 l1)]) ∧ Own w' w.heap.size v (shiftL l0 l1) ∧ Below w.heap.size w w' := by
  have HR0 := Aside0.mk hr0
  have HC0 := Aside0.mk hc0
  have HR1 := Aside0.mk hr1
  have HC1 := Aside0.mk hc1
  clear hr0 hc0 hr1 hc1
  go_enter Try.func13, Try.ntmps13
  cases hs0 : setB 300 l0
  · have HS := Aside0.mk hs0
    clear hs0
    go_wp2_with fail
    refine (isSet_any A0 c0 l0 300 _ (by repeat (first | exact HR0.out | (with_reducible refine Kd.C_alloc ?_ _) | (with_reducible refine Kd.C_drewN ?_ _) | (with_reducible refine Kd.C_drew ?_))) HC0.out).mono ?_
    rintro e w1 ⟨rfl, ⟨nd, rfl⟩⟩
    simp only [HS.out]
    go_wp2_with fail
    go_ret2
    exact ⟨.slice none 0 0, by rw [shiftE, if_neg (by simp [HS.out])]; rfl, by rw [shiftL, if_neg (by simp [HS.out])]; exact Own.nil _ _, (by repeat (first | exact Below.refl _ _ | apply pw_below_drewN | apply below_drew1 | apply below_alloc))⟩
  · cases hs1 : setB 300 l1
    · have HS := Aside0.mk hs0
      have HT := Aside0.mk hs1
      clear hs0 hs1
      go_wp2_with fail
      refine (isSet_any A0 c0 l0 300 _ (by repeat (first | exact HR0.out | (with_reducible refine Kd.C_alloc ?_ _) | (with_reducible refine Kd.C_drewN ?_ _) | (with_reducible refine Kd.C_drew ?_))) HC0.out).mono ?_
      rintro e w1 ⟨rfl, ⟨nd, rfl⟩⟩
      simp only [HS.out]
      go_wp2_with fail
      refine (isSet_any A1 c1 l1 300 _ (by repeat (first | exact HR1.out | (with_reducible refine Kd.C_alloc ?_ _) | (with_reducible refine Kd.C_drewN ?_ _) | (with_reducible refine Kd.C_drew ?_))) HC1.out).mono ?_
      rintro e w1 ⟨rfl, ⟨nd2, rfl⟩⟩
      simp only [HT.out]
      go_wp2_with fail
      go_ret2
      exact ⟨.slice none 0 0, by rw [shiftE, if_neg (by simp [HT.out])]; rfl, by rw [shiftL, if_neg (by simp [HT.out])]; exact Own.nil _ _, (by repeat (first | exact Below.refl _ _ | apply pw_below_drewN | apply below_drew1 | apply below_alloc))⟩
    · have HS := Aside0.mk hs0
      have HT := Aside0.mk hs1
      have HN := Aside0.mk (And.intro (setB_length hs0) (setB_length hs1))
      clear hs0 hs1
      go_wp2_with fail
      refine (isSet_any A0 c0 l0 300 _ (by repeat (first | exact HR0.out | (with_reducible refine Kd.C_alloc ?_ _) | (with_reducible refine Kd.C_drewN ?_ _) | (with_reducible refine Kd.C_drew ?_))) HC0.out).mono ?_
      rintro e w1 ⟨rfl, ⟨nd, rfl⟩⟩
      simp only [HS.out]
      go_wp2_with fail
      refine (isSet_any A1 c1 l1 300 _ (by repeat (first | exact HR1.out | (with_reducible refine Kd.C_alloc ?_ _) | (with_reducible refine Kd.C_drewN ?_ _) | (with_reducible refine Kd.C_drew ?_))) HC1.out).mono ?_
      rintro e w1 ⟨rfl, ⟨nd2, rfl⟩⟩
      simp only [HT.out]
      go_wp2_with fail
      refine (mover_any A1 c1 l1 _).mono ?_
      rintro e w1 ⟨rfl, rfl⟩
      go_wp2_with fail
      refine (joined_calls 50 (fun a b => a && !b) enters50 inFirst_any A0 c0 l0 A1 c1 l1 _ (by repeat (first | exact HR0.out | (with_reducible refine Kd.C_alloc ?_ _) | (with_reducible refine Kd.C_drewN ?_ _) | (with_reducible refine Kd.C_drew ?_))) HC0.out (by repeat (first | exact HR1.out | (with_reducible refine Kd.C_alloc ?_ _) | (with_reducible refine Kd.C_drewN ?_ _) | (with_reducible refine Kd.C_drew ?_))) HC1.out (by have := HN.out; omega) (by have := HN.out; omega)).mono ?_
      rintro e w2 ⟨v, rfl, ho, hb⟩
      have hl : joinF (fun a b => a && !b) l0 l1 = lessF l0 l1 := rfl
      rw [hl] at ho
      clear hl
      have B2 : Aside0 (w2.heap[w.heap.size]? = some (.cells #[.slice A1 l1.length c1] 22 (0, 0))) := ⟨by
        have := blk_below (blk_new (w.drewN (nd + nd2)) (.cells #[.slice A1 l1.length c1] 22)) hb
        simpa using this⟩
      have HB : Aside0 (Below w.heap.size w w2) := ⟨below_step (by repeat (first | exact Below.refl _ _ | apply pw_below_drewN | apply below_drew1 | apply below_alloc)) hb⟩
      have HO : Aside0 (Own w2 w.heap.size v (lessF l0 l1)) := ⟨Own.lower ho (by simp)⟩
      obtain ⟨A2, c2, rfl, hq2, hk2⟩ := HO.out.slice
      have HK := Aside0.mk hk2
      have hlen : (lessF l0 l1).length ≤ 600 := by
        have := joinF_length (fun a b => a && !b) _ l0 l1 rfl
        have := HN.out
        show (joinF (fun a b => a && !b) l0 l1).length ≤ 600
        omega
      clear ho hb hq2 hk2
      generalize hLE : lessF l0 l1 = L at *
      have HLE := Aside0.mk hLE
      clear hLE
      have HRG : Aside0 (∀ z ∈ L, -10000 ≤ z ∧ z ≤ 10000) := ⟨by rw [← HLE.out]; exact lessF_range HS.out HT.out⟩
      go_wp2_with fail
      go_loopw [7, 24] (fun v7 v24 wr => ∃ k : Nat, v24 = .int .i64 (k : Int) ∧ k ≤ L.length ∧ Aside0 (Own wr w2.heap.size v7 ((L.take k).map fun x => x - (below l1 x : Int))) ∧ Aside0 (Below w2.heap.size w2 wr)) (fun v7 v24 wr => ((L.length : Int) - intOf v24).toNat)
      case atStart => exact ⟨0, rfl, by omega, ⟨by simpa using Own.nil _ _⟩, ⟨Below.refl _ _⟩⟩
      case round =>
        obtain ⟨k, rfl, hk, HO7, HB7⟩ := hrel
        by_cases hlt : k < L.length
        · obtain ⟨ad, rfl, hcell⟩ := Kd.at_int HK.out (k : Int) (by omega) (by omega)
          rw [rd_at L k hlt] at hcell
          have hcell : wr.cell? (ad.add k) = some (.int .i64 L[k]) := by
            have := (HB7.out.cell (World.block_lt_of_cell? w2 _ hcell)).trans hcell
            simpa using this
          have hbox : wr.cell? ⟨w.heap.size, 0, none⟩ = some (.slice A1 l1.length c1) := (blk_cell (blk_below B2.out HB7.out) 0).trans rfl
          have HX := Aside0.mk (HRG.out L[k] (List.getElem_mem hlt))
          have HTK : Aside0 (L.take (k + 1) = L.take k ++ [L[k]]) := ⟨List.take_succ_eq_append_getElem hlt⟩
          obtain ⟨x, hxe⟩ : ∃ x, L[k] = x := ⟨_, rfl⟩
          rw [hxe] at hcell HX HTK
          clear hxe
          go_wp2_with fail
          refine (moved_any w.heap.size A1 c1 l1 x _ hbox (Kd.C_below HR1.out (below_step HB.out HB7.out)) HC1.out (by have := HN.out; omega) (setFrom_pairwise HT.out) HX.out).mono ?_
          rintro e w' ⟨rfl, rfl⟩
          clear hbox hcell
          go_wp2_with (at_builtin; refine app1 (w0 := w2) w2.heap.size rfl _ _ rfl u7 ((L.take k).map fun x => x - (below l1 x : Int)) (x - (below l1 x : Int)) rfl rfl HO7.out HB7.out HB7.out.size (by rw [List.length_map, List.length_take]; omega) ?_; intro v1 w1 ho hb; have HO1 := Aside0.mk ho; have HB1 := Aside0.mk hb; clear ho hb)
          go_roundw
          case rel => exact ⟨k + 1, by go_num, by omega, ⟨by rw [HTK.out, List.map_append]; exact HO1.out⟩, HB1⟩
          case measure => simp [intOf]; omega
        · obtain rfl : k = L.length := by omega
          go_wp2_with fail
          go_ret2
          refine ⟨_, by rw [shiftE, if_pos ⟨HS.out, HT.out⟩]; rfl, ?_, below_step HB.out HB7.out⟩
          rw [shiftL, if_pos ⟨HS.out, HT.out⟩, shiftF, HLE.out]
          have := HO7.out
          rw [List.take_length] at this
          exact Own.lower this HB.out.size
end Go.Proofs.Ytpbdlkbiiglkdaa

/- ranges, pack. -/
set_option linter.unusedVariables false
set_option linter.unusedSimpArgs false
namespace Go.Proofs.Ytpbdlkbiiglkdaa
open Go.RowKit Go.Proofs.YtpbdlkbiiglkdaaW.PrintWords Go.Proofs.YtpbdlkbiiglkdaaW.PrintLast Go.Proofs.YtpbdlkbiiglkdaaW.PrintMore Go.Proofs.Cab

/-- A pair of ints in two cells. -/
def pk : Kd (Int × Int) := Kd.pair (Kd.int .i64) (Kd.int .i64)
def Own2 (w : World) (n : Nat) (v : Value) (rs : List (Int × Int)) : Prop := Kd.R pk 38 w n (fun _ => True) v rs
theorem info38 : (Try.prog.info? 38).map (fun i => (i.zero, i.size, i.bytes)) = some (some (.agg #[.int .i64 0, .int .i64 0]), 2, 16) := by kernel_rfl
/-- A stretch goes on, or another one begins. -/
def addR (out : List (Int × Int)) (x : Int) : List (Int × Int) := match out.getLast? with
  | some p => if p.2 + 1 = x then out.dropLast ++ [(p.1, x)] else out ++ [(x, x)]
  | none => out ++ [(x, x)]
def rangesF (l : List Int) : List (Int × Int) := l.foldl addR []
theorem addR_snoc (out : List (Int × Int)) (p : Int × Int) (x : Int) : addR (out ++ [p]) x = if p.2 + 1 = x then out ++ [(p.1, x)] else out ++ [p] ++ [(x, x)] := by
  simp [addR]
theorem addR_nil (x : Int) : addR [] x = [(x, x)] := rfl
theorem addR_length (out : List (Int × Int)) (x : Int) : (addR out x).length ≤ out.length + 1 := by
  rcases List.eq_nil_or_concat out with rfl | ⟨m, p, rfl⟩
  · simp [addR_nil]
  · rw [List.concat_eq_append, addR_snoc]
    split
    all_goals (simp only [List.length_append, List.length_cons, List.length_nil]; omega)
theorem foldl_addR_length : ∀ (l : List Int) (out : List (Int × Int)), (l.foldl addR out).length ≤ out.length + l.length
  | [], out => by simp
  | x :: l, out => by
    have := foldl_addR_length l (addR out x)
    have := addR_length out x
    simp
    omega
section
variable {ops : Array Oper} {rest : List Oper} {o : Oper} {a : Act} {Q : Exit → Act → World → Prop}
/-- append(v, [2]int{y, z}) on a row of the call's own. -/
theorem app2 {w0 W : World} (base : Nat) (hgd : o.guard = none) (s x : Operand) (ho : o.op = .call { callee := .builtin .append, args := #[s, x], argTypes := #[35, 35] })
    (v : Value) (rs : List (Int × Int)) (y z : Int) (hs : a.eval s = v) (hx : a.eval x = .slice (some ⟨W.heap.size, 0, none⟩) 1 1) (HO : Own2 W base v rs) (HB : Below base w0 W) (hbase : base ≤ W.heap.size) (hl : rs.length < 8796093022208)
    (h : ∀ v1 w1, Own2 w1 base v1 (rs ++ [(y, z)]) → Below base w0 w1 → wpList Try.prog ops Q rest (a.put o.dst v1) w1) :
    wpList Try.prog ops Q (o :: rest) a (W.alloc (.cells #[.int .i64 y, .int .i64 z] 38)) :=
  Kd.R_append pk (w0 := w0) base hgd s x 35 38 (.agg #[.int .i64 0, .int .i64 0]) 16 ho Try.underlying35 info38 rfl (by decide) (by omega) v rs (y, z) [.int .i64 y, .int .i64 z] (fun _ => True) (fun _ => False) hs hx ⟨[.int .i64 y], [.int .i64 z], rfl, rfl, rfl⟩ (fun _ hk => hk.elim) (fun _ _ => trivial) HO HB hbase (by omega)
    fun v1 w1 ho hb _ _ => h v1 w1 ho hb
end
/-- The last pair of a row of one's own. -/
theorem own2_last {w : World} {n : Nat} {v : Value} {rs : List (Int × Int)} {p : Int × Int} (h : Own2 w n v (rs ++ [p])) :
    ∃ g cap, v = .slice (some ⟨g, 0, none⟩) (rs.length + 1) cap ∧ n ≤ g ∧ w.cell? ⟨g, rs.length * 2, none⟩ = some (.int .i64 p.1) ∧ w.cell? ⟨g, rs.length * 2 + 1, none⟩ = some (.int .i64 p.2) ∧ w.frozen? ⟨g, rs.length * 2 + 1, none⟩ = false ∧
      ∀ x, Own2 (w.setCell ⟨g, rs.length * 2 + 1, none⟩ (.int .i64 x)) n v (rs ++ [(p.1, x)]) := by
  obtain ⟨g, cap, he, hg, _, _⟩ := Kd.R_form h (by simp)
  rw [List.length_append, List.length_singleton] at he
  subst he
  obtain ⟨c, hcl, hM, hc, hf⟩ := Kd.R_elem h (0, 0) (rs.length : Int) (by omega) (by omega)
  have hp : (rs ++ [p]).getD (rs.length : Int).toNat (0, 0) = p := by simp [List.getD_eq_getElem?_getD]
  rw [hp] at hM
  obtain ⟨c0, c1, rfl, h0, h1⟩ := hM
  have h0' : c0 = [.int .i64 p.1] := h0
  have h1' : c1 = [.int .i64 p.2] := h1
  subst h0' h1'
  have hsz : pk.sz = 2 := rfl
  have e0 := hc 0 _ rfl
  have e1 := hc 1 _ rfl
  have f1 := hf 1
  simp only [hsz, Int.toNat_natCast, Nat.add_zero] at e0 e1 f1
  refine ⟨g, cap, rfl, hg, e0, e1, f1, fun x => ?_⟩
  have hs := (Kd.R_seg (okp := fun _ => False) h (rs.length : Int) (by omega) (by omega) (c := [.int .i64 p.1, .int .i64 p.2]) (seg := [.int .i64 x]) (j := 1) rfl hc (by simp [hsz]) (x' := (p.1, x)) ⟨[.int .i64 p.1], [.int .i64 x], rfl, rfl, rfl⟩ (fun _ hk => hk.elim)).1
  simp only [hsz, Int.toNat_natCast] at hs
  have hset : (rs ++ [p]).set rs.length (p.1, x) = rs ++ [(p.1, x)] := by simp
  rw [hset] at hs
  exact hs

set_option maxHeartbeats 4000000 in
set_option maxRecDepth 100000 in
theorem ranges_any (A0 : Option Addr) (c0 : Nat) (l0 : List Int) (w : World) (hr0 : Kd.C (Kd.int .i64) w A0 l0.length l0) (hc0 : l0.length ≤ c0) (hn : l0.length ≤ 3000) (hx : ∀ x ∈ l0, -10000 ≤ x ∧ x ≤ 10000) :
    Calls Try.prog 58 #[.slice A0 l0.length c0] w fun e w' => ∃ v : Value, e = .returned v ∧ Own2 w' w.heap.size v (rangesF l0) ∧ Below w.heap.size w w' := by
  have HR0 := Aside0.mk hr0
  have HC0 := Aside0.mk hc0
  clear hr0 hc0
  have HX := Aside0.mk hx
  clear hx
  go_enter Try.func58, Try.ntmps58
  go_wp2
  go_loopw [3, 9] (fun v3 v9 wr => ∃ k : Nat, v9 = .int .i64 (k : Int) ∧ k ≤ l0.length ∧ Aside0 (Own2 wr w.heap.size v3 ((l0.take k).foldl addR [])) ∧ Aside0 (∀ p ∈ (l0.take k).foldl addR [], -10000 ≤ p.2 ∧ p.2 ≤ 10000) ∧ Aside0 (Below w.heap.size w wr)) (fun v3 v9 wr => ((l0.length : Int) - intOf v9).toNat)
  case atStart => exact ⟨0, rfl, by omega, ⟨Kd.R_nil _ _ _ _ _⟩, ⟨by simp⟩, ⟨Below.refl _ _⟩⟩
  case round =>
    obtain ⟨k, rfl, hk, HO, HP, HB⟩ := hrel
    by_cases hlt : k < l0.length
    · obtain ⟨ad, rfl, hcell⟩ := Kd.at_int HR0.out (k : Int) (by omega) (by omega)
      rw [rd_at l0 k hlt] at hcell
      have hcell : wr.cell? (ad.add k) = some (.int .i64 l0[k]) := by
        have := (HB.out.cell (World.block_lt_of_cell? w _ hcell)).trans hcell
        simpa using this
      have HXk := Aside0.mk (HX.out l0[k] (List.getElem_mem hlt))
      have HTK : Aside0 ((l0.take (k + 1)).foldl addR [] = addR ((l0.take k).foldl addR []) l0[k]) := ⟨by rw [List.take_succ_eq_append_getElem hlt, List.foldl_append]; rfl⟩
      have HLL : Aside0 (((l0.take k).foldl addR []).length ≤ k) := ⟨by have := foldl_addR_length (l0.take k) []; rw [List.length_take] at this; simp at this; omega⟩
      obtain ⟨x, hxe⟩ : ∃ x, l0[k] = x := ⟨_, rfl⟩
      rw [hxe] at hcell HXk HTK
      clear hxe
      generalize (l0.take k).foldl addR [] = out at *
      rcases List.eq_nil_or_concat out with he | ⟨rs, p, he⟩
      · subst he
        obtain ⟨A2, c2, h2⟩ := Kd.R_slice HO.out
        simp only [List.length_nil] at h2
        subst h2
        go_wp2_with (at_builtin; refine app2 (w0 := w) w.heap.size rfl _ _ rfl (.slice A2 0 c2) [] x x rfl rfl HO.out HB.out HB.out.size (by simp) ?_; intro v1 w1 ho hb; have HO1 := Aside0.mk ho; have HB1 := Aside0.mk hb; clear ho hb)
        go_roundw
        case rel => exact ⟨k + 1, by go_num, by omega, ⟨by rw [HTK.out]; exact HO1.out⟩, ⟨by rw [HTK.out, addR_nil]; intro p hp; rw [List.mem_singleton.1 hp]; exact HXk.out⟩, HB1⟩
        case measure => simp [intOf]; omega
      · rw [List.concat_eq_append] at he
        subst he
        obtain ⟨g, cap, rfl, hg, hp0, hp1, hf1, hset⟩ := own2_last HO.out
        have HS := Aside0.mk hset
        have hpr := HP.out p (by simp)
        have hm : rs.length + 1 ≤ 3000 := by have := HLL.out; simp at this; omega
        have HG := Aside0.mk hg
        clear hset hg hp0
        obtain ⟨hpr1, hpr2⟩ := hpr
        by_cases hx : p.2 + 1 = x
        · have hx1 : (p.2 + 1 == x) = true := by simpa using hx
          have HXE := Aside0.mk hx
          clear hx
          go_wp2_with fail
          go_roundw
          case rel => exact ⟨k + 1, by go_num, by omega, ⟨by rw [HTK.out, addR_snoc, if_pos HXE.out]; exact HS.out x⟩, ⟨by
            rw [HTK.out, addR_snoc, if_pos HXE.out]
            intro q hq
            rcases List.mem_append.1 hq with h | h
            · exact HP.out q (List.mem_append_left _ h)
            · rw [List.mem_singleton.1 h]; exact HXk.out⟩, ⟨below_set HB.out HG.out⟩⟩
          case measure => simp [intOf]; omega
        · have hx1 : (p.2 + 1 == x) = false := by simpa using hx
          have HXE := Aside0.mk hx
          clear hx
          go_wp2_with (at_builtin; refine app2 (w0 := w) w.heap.size rfl _ _ rfl (.slice (some ⟨g, 0, none⟩) (rs.length + 1) cap) (rs ++ [p]) x x rfl rfl HO.out HB.out HB.out.size (by simp; omega) ?_; intro v1 w1 ho hb; have HO1 := Aside0.mk ho; have HB1 := Aside0.mk hb; clear ho hb)
          go_roundw
          case rel => exact ⟨k + 1, by go_num, by omega, ⟨by rw [HTK.out, addR_snoc, if_neg HXE.out]; exact HO1.out⟩, ⟨by
            rw [HTK.out, addR_snoc, if_neg HXE.out]
            intro q hq
            rcases List.mem_append.1 hq with h | h
            · exact HP.out q h
            · rw [List.mem_singleton.1 h]; exact HXk.out⟩, HB1⟩
          case measure => simp [intOf]; omega
    · obtain rfl : k = l0.length := by omega
      go_wp2_with fail
      go_ret
      refine ⟨_, rfl, ?_, HB.out⟩
      have := HO.out
      rw [List.take_length] at this
      exact this
end Go.Proofs.Ytpbdlkbiiglkdaa

/- pack. -/
set_option linter.unusedVariables false
set_option linter.unusedSimpArgs false
namespace Go.Proofs.Ytpbdlkbiiglkdaa
open Go.RowKit Go.Proofs.YtpbdlkbiiglkdaaW.PrintWords Go.Proofs.YtpbdlkbiiglkdaaW.PrintLast Go.Proofs.YtpbdlkbiiglkdaaW.PrintMore Go.Proofs.Cab

theorem meas_lt {n k : Nat} (h : k < n) (hn : n ≤ 4611686018427387904) : ((n : Int) - intOf (.int .i64 (wrap64 ((k : Int) + 1)))).toNat < ((n : Int) - intOf (.int .i64 (k : Int))).toNat := by
  rw [wrap_id (by omega) (by omega)]
  show ((n : Int) - ((k : Int) + 1)).toNat < ((n : Int) - (k : Int)).toNat
  omega
theorem own2_at {w : World} {n : Nat} {v : Value} {rs : List (Int × Int)} (h : Own2 w n v rs) (k : Nat) (hk : k < rs.length) :
    ∃ g cap, v = .slice (some ⟨g, 0, none⟩) rs.length cap ∧ g < w.heap.size ∧ w.cell? ⟨g, k * 2, none⟩ = some (.int .i64 rs[k].1) ∧ w.cell? ⟨g, k * 2 + 1, none⟩ = some (.int .i64 rs[k].2) := by
  obtain ⟨g, cap, rfl, _, hg, _⟩ := Kd.R_form h (by omega)
  obtain ⟨c, hcl, hM, hc, hf⟩ := Kd.R_elem h (0, 0) (k : Int) (by omega) (by omega)
  have hp : rs.getD (k : Int).toNat (0, 0) = rs[k] := by simp [List.getD_eq_getElem?_getD, List.getElem?_eq_getElem hk]
  rw [hp] at hM
  obtain ⟨c0, c1, rfl, h0, h1⟩ := hM
  have h0' : c0 = [.int .i64 rs[k].1] := h0
  have h1' : c1 = [.int .i64 rs[k].2] := h1
  subst h0' h1'
  have hsz : pk.sz = 2 := rfl
  have e0 := hc 0 _ rfl
  have e1 := hc 1 _ rfl
  simp only [hsz, Int.toNat_natCast, Nat.add_zero] at e0 e1
  exact ⟨g, cap, rfl, hg, e0, e1⟩
theorem Own2.below {w w1 : World} {n : Nat} {v : Value} {xs : List (Int × Int)} (h : Own2 w n v xs) (hb : Below w.heap.size w w1) : Own2 w1 n v xs := Kd.R_below h hb

/-- The bytes of a number. -/
def numB (n : Int) : List Int := if n < 128 then [n % 256] else [(wrap64 (128 + (Int.tmod n 128))) % 256, (wrap64 (Int.tdiv n 128)) % 256]
theorem numB_length (n : Int) : (numB n).length ≤ 2 := by unfold numB; split <;> simp
theorem number_f (l : List Int) (n : Int) (hl : l.length ≤ 1000000) : PAll.bits_number.f l n = some (l ++ numB n) := by
  unfold PAll.bits_number.f numB
  split
  · rw [if_pos (by omega)]
  · simp only [Option.bind_some, List.length_cons, List.length_nil]
    rw [if_pos (by omega)]
def OwnB (w : World) (n : Nat) (v : Value) (xs : List Int) : Prop := Kd.R (Kd.int .u8) 5 w n (fun _ => True) v xs
theorem OwnB.lower {w : World} {n m : Nat} {v : Value} {xs : List Int} (h : OwnB w n v xs) (hb : m ≤ n) : OwnB w m v xs := Kd.R_lower h hb
theorem OwnB.below {w w1 : World} {n : Nat} {v : Value} {xs : List Int} (h : OwnB w n v xs) (hb : Below w.heap.size w w1) : OwnB w1 n v xs := Kd.R_below h hb
theorem OwnB.slice {w : World} {n : Nat} {v : Value} {xs : List Int} (h : OwnB w n v xs) : ∃ A c, v = .slice A xs.length c ∧ xs.length ≤ c ∧ Kd.C (Kd.int .u8) w A xs.length xs := Kd.R_reads h
/-- number, beside a block B that it leaves as it is. -/
theorem number_any (B : Nat) (u : Value) (l : List Int) (n : Int) (w0 w : World) (hB : Below w0.heap.size w0 w) (hu : Kd.R (Kd.int .u8) 5 w w0.heap.size (fun k => k ≠ B) u l) (hBl : B < w.heap.size) (hl : l.length ≤ 1000000) :
    Calls Try.prog 72 #[u, .int .i64 n] w fun e w' => ∃ v : Value, e = .returned v ∧ Kd.R (Kd.int .u8) 5 w' w0.heap.size (fun k => k ≠ B) v (l ++ numB n) ∧ Below w0.heap.size w0 w' ∧ w'.heap[B]? = w.heap[B]? ∧ w.heap.size ≤ w'.heap.size := by
  refine (PAll.bits_number.calls (fun k => k ≠ B) u l n _ w0 w hB hu (number_f l n hl)).mono ?_
  rintro e w' ⟨v, rfl, ho, hb, hk⟩
  exact ⟨v, rfl, Kd.R_mono ho (fun k hk => by rcases hk with h | h; exact h; omega), hb, hk.2 B hBl (by simp), hk.1⟩

/-- The bytes of stretches, behind the last number. -/
def packG : List (Int × Int) → Int → List Int
  | [], _ => []
  | p :: rs, last => numB (p.1 - last - 1) ++ numB (p.2 - p.1) ++ packG rs p.2
theorem packG_length : ∀ (rs : List (Int × Int)) (last : Int), (packG rs last).length ≤ 4 * rs.length
  | [], last => by simp [packG]
  | p :: rs, last => by
    have := packG_length rs p.2
    have := numB_length (p.1 - last - 1)
    have := numB_length (p.2 - p.1)
    simp only [packG, List.length_append, List.length_cons]
    omega
def packF (l : List Int) : List Int := packG (rangesF l) 0
theorem foldl_addR_mem (B : Int) : ∀ (l : List Int) (out : List (Int × Int)), (∀ x ∈ l, -B ≤ x ∧ x ≤ B) → (∀ p ∈ out, (-B ≤ p.1 ∧ p.1 ≤ B) ∧ -B ≤ p.2 ∧ p.2 ≤ B) → ∀ p ∈ l.foldl addR out, (-B ≤ p.1 ∧ p.1 ≤ B) ∧ -B ≤ p.2 ∧ p.2 ≤ B
  | [], out, _, ho => ho
  | x :: l, out, hl, ho => by
    refine foldl_addR_mem B l (addR out x) (fun y hy => hl y (List.mem_cons_of_mem _ hy)) ?_
    have hx := hl x List.mem_cons_self
    intro p hp
    rcases List.eq_nil_or_concat out with he | ⟨rs, q, he⟩
    · subst he
      rw [addR_nil, List.mem_singleton] at hp
      subst hp
      exact ⟨hx, hx⟩
    · rw [List.concat_eq_append] at he
      subst he
      rw [addR_snoc] at hp
      have hq := ho q (by simp)
      split at hp
      · rcases List.mem_append.1 hp with h | h
        · exact ho p (List.mem_append_left _ h)
        · rw [List.mem_singleton.1 h]; exact ⟨hq.1, hx⟩
      · rcases List.mem_append.1 hp with h | h
        · exact ho p h
        · rw [List.mem_singleton.1 h]; exact ⟨hx, hx⟩

set_option maxHeartbeats 4000000 in
set_option maxRecDepth 100000 in
theorem pack_any (A0 : Option Addr) (c0 : Nat) (l0 : List Int) (w : World) (hr0 : Kd.C (Kd.int .i64) w A0 l0.length l0) (hc0 : l0.length ≤ c0) (hn : l0.length ≤ 3000) (hx : ∀ x ∈ l0, -10000 ≤ x ∧ x ≤ 10000) :
    Calls Try.prog 67 #[.slice A0 l0.length c0] w fun e w' => ∃ v : Value, e = .returned v ∧ OwnB w' w.heap.size v (packF l0) ∧ Below w.heap.size w w' := by
  have HR0 := Aside0.mk hr0
  have HC0 := Aside0.mk hc0
  clear hr0 hc0
  have HX := Aside0.mk hx
  clear hx
  have hu38 := Try.underlying38
  go_enter Try.func67, Try.ntmps67
  go_wp2_with fail
  refine (ranges_any A0 c0 l0 _ HR0.out HC0.out hn HX.out).mono ?_
  rintro e w2 ⟨v, rfl, ho, hb⟩
  have HO := Aside0.mk ho
  have HB := Aside0.mk hb
  have HRL : Aside0 ((rangesF l0).length ≤ 3000) := ⟨by have := foldl_addR_length l0 []; simp at this; unfold rangesF; omega⟩
  have HRM : Aside0 (∀ p ∈ rangesF l0, (-10000 ≤ p.1 ∧ p.1 ≤ 10000) ∧ -10000 ≤ p.2 ∧ p.2 ≤ 10000) := ⟨foldl_addR_mem 10000 l0 [] HX.out (by simp)⟩
  obtain ⟨A2, c2, rfl⟩ := Kd.R_slice ho
  clear ho hb
  have HPK : Aside0 (packG (rangesF l0) 0 = packF l0) := ⟨rfl⟩
  generalize rangesF l0 = rs at *
  go_wp2_with fail
  go_loopw [3, 4, 10] (fun v3 v4 v10 wr => ∃ (k : Nat) (last : Int) (out : List Int), v10 = .int .i64 (k : Int) ∧ v4 = .int .i64 last ∧ -10000 ≤ last ∧ last ≤ 10000 ∧ k ≤ rs.length ∧ Aside0 (out ++ packG (rs.drop k) last = packF l0) ∧ Aside0 (out.length ≤ 4 * k) ∧ Aside0 (OwnB wr w2.heap.size v3 out) ∧ Aside0 (Below w2.heap.size w2 wr)) (fun v3 v4 v10 wr => ((rs.length : Int) - intOf v10).toNat)
  case atStart => exact ⟨0, 0, [], rfl, rfl, by omega, by omega, by omega, ⟨HPK.out⟩, ⟨by simp⟩, ⟨Kd.R_nil _ _ _ _ _⟩, ⟨Below.refl _ _⟩⟩
  case round =>
    obtain ⟨k, last, out, rfl, rfl, hl1, hl2, hk, HE, HL, HO3, HBr⟩ := hrel
    by_cases hlt : k < rs.length
    · obtain ⟨g, cap, hv, hg, e0, e1⟩ := own2_at HO.out k hlt
      injection hv with hv1 hv2 hv3
      subst hv1 hv3
      have e0 := (HBr.out.cell hg).trans e0
      have e1 := (HBr.out.cell hg).trans e1
      have hpm := HRM.out rs[k] (List.getElem_mem hlt)
      have HD : Aside0 (rs.drop k = rs[k] :: rs.drop (k + 1)) := ⟨List.drop_eq_getElem_cons hlt⟩
      obtain ⟨p, hp⟩ : ∃ p, rs[k] = p := ⟨_, rfl⟩
      rw [hp] at e0 e1 hpm HD
      clear hp hg
      obtain ⟨⟨m1, m2⟩, m3, m4⟩ := hpm
      go_wp2_with fail
      refine (number_any wr.heap.size _ out _ w2 _ ?_ ?_ ?_ (by have := HL.out; have := HRL.out; omega)).mono ?_
      · exact HBr.out.alloc HBr.out.size _
      · exact Kd.R_mono (Kd.R_alloc (Kd.R_bound HO3.out) _) (fun k hk => by have := hk.2.2.1; omega)
      · simp
      rintro e w4 ⟨v4, rfl, ho, hb, hB, hsz⟩
      have hblk : w4.heap[wr.heap.size]? = some (.cells #[.int .i64 p.1, .int .i64 p.2] 38 (0, 0)) := hB.trans (blk_new _ _)
      have BK := Aside0.mk hblk
      have hc0 : w4.cell? ⟨wr.heap.size, 0, none⟩ = some (.int .i64 p.1) := (blk_cell hblk 0).trans rfl
      have hc1 : w4.cell? ⟨wr.heap.size, 1, none⟩ = some (.int .i64 p.2) := (blk_cell hblk 1).trans rfl
      have HO4 := Aside0.mk ho
      have HB4 := Aside0.mk hb
      clear ho hb hB hsz hblk e0 e1
      go_wp2_with fail
      refine (number_any wr.heap.size _ _ _ w2 _ HB4.out HO4.out (blk_lt BK.out) (by rw [List.length_append]; have := numB_length (p.1 - last - 1); have := HL.out; have := HRL.out; omega)).mono ?_
      rintro e w5 ⟨v5, rfl, ho, hb, hB, hsz⟩
      have hblk : w5.heap[wr.heap.size]? = some (.cells #[.int .i64 p.1, .int .i64 p.2] 38 (0, 0)) := hB.trans BK.out
      have hc1 : w5.cell? ⟨wr.heap.size, 1, none⟩ = some (.int .i64 p.2) := (blk_cell hblk 1).trans rfl
      have HO5 := Aside0.mk (Kd.R_mono (ok' := fun _ => True) ho (fun _ _ => trivial))
      have HB5 := Aside0.mk hb
      clear ho hb hB hsz hblk
      go_wp2_with fail
      have hrl := HRL.out
      go_roundw
      case rel => exact ⟨k + 1, p.2, out ++ numB (p.1 - last - 1) ++ numB (p.2 - p.1), by rw [wrap_id (by omega) (by omega), show (k : Int) + 1 = ((k + 1 : Nat) : Int) by omega], rfl, by omega, by omega, by omega, ⟨by rw [← HE.out, HD.out]; simp [packG]⟩, ⟨by
        have := numB_length (p.1 - last - 1)
        have := numB_length (p.2 - p.1)
        have := HL.out
        simp only [List.length_append]
        omega⟩, ⟨HO5.out⟩, HB5⟩
      case measure => exact meas_lt hlt (by omega)
    · obtain rfl : k = rs.length := by omega
      go_wp2_with fail
      go_ret
      refine ⟨_, rfl, ?_, below_step HB.out HBr.out⟩
      have h := HE.out
      rw [List.drop_length] at h
      simp only [packG, List.append_nil] at h
      rw [← h]
      exact OwnB.lower HO3.out HB.out.size

def packL (l : List Int) : List Int := if setB 300 l = true then packF l else []
set_option maxHeartbeats 4000000 in
set_option maxRecDepth 100000 in
theorem Pack_any (A0 : Option Addr) (c0 : Nat) (l0 : List Int) (w : World) (hr0 : Kd.C (Kd.int .i64) w A0 l0.length l0) (hc0 : l0.length ≤ c0) :
    Calls Try.prog 45 #[.slice A0 l0.length c0] w fun e w' => ∃ v : Value, e = .returned (.tuple #[v, .int .i64 (knownE l0)]) ∧ OwnB w' w.heap.size v (packL l0) ∧ Below w.heap.size w w' := by
  have HR0 := Aside0.mk hr0
  have HC0 := Aside0.mk hc0
  clear hr0 hc0
  go_enter Try.func45, Try.ntmps45
  cases hs0 : setB 300 l0
  · have HS := Aside0.mk hs0
    clear hs0
    go_wp2_with fail
    refine (isSet_any A0 c0 l0 300 _ HR0.out HC0.out).mono ?_
    rintro e w1 ⟨rfl, ⟨nd, rfl⟩⟩
    simp only [HS.out]
    go_wp2_with fail
    go_ret2
    exact ⟨.slice none 0 0, by rw [knownE, if_neg (by simp [HS.out])]; rfl, by rw [packL, if_neg (by simp [HS.out])]; exact Kd.R_nil _ _ _ _ _, (by repeat (first | exact Below.refl _ _ | apply pw_below_drewN | apply below_drew1 | apply below_alloc))⟩
  · have HS := Aside0.mk hs0
    clear hs0
    go_wp2_with fail
    refine (isSet_any A0 c0 l0 300 _ HR0.out HC0.out).mono ?_
    rintro e w1 ⟨rfl, ⟨nd, rfl⟩⟩
    simp only [HS.out]
    go_wp2_with fail
    refine (pack_any A0 c0 l0 _ (by repeat (first | exact HR0.out | (with_reducible refine Kd.C_alloc ?_ _) | (with_reducible refine Kd.C_drewN ?_ _) | (with_reducible refine Kd.C_drew ?_))) HC0.out (by have := setB_length HS.out; omega) (fun x hx => by have := setFrom_mem HS.out x hx; omega)).mono ?_
    rintro e w2 ⟨v, rfl, ho, hb⟩
    have HO := Aside0.mk ho
    have HB := Aside0.mk (below_step (pw_below_drewN (Below.refl w.heap.size w) nd) hb)
    clear ho hb
    go_wp2_with fail
    go_ret2
    exact ⟨v, by rw [knownE, if_pos HS.out]; rfl, by rw [packL, if_pos HS.out]; exact HO.out, HB.out⟩
end Go.Proofs.Ytpbdlkbiiglkdaa

/- SameInts, same, known. -/
set_option linter.unusedVariables false
set_option linter.unusedSimpArgs false
namespace Go.Proofs.Ytpbdlkbiiglkdaa
open Go.RowKit Go.Proofs.YtpbdlkbiiglkdaaW.PrintWords Go.Proofs.YtpbdlkbiiglkdaaW.PrintLast Go.Proofs.YtpbdlkbiiglkdaaW.PrintMore Go.Proofs.Cab

theorem sameInts_l0 (a b : List Int) (he : a.length = b.length) (hl : a.length ≤ 9223372036854775807) : ∀ (d i : Nat), a.length - i = d → i ≤ a.length →
    PAll.cabinetryref01_SameInts.l0 (d + 1) a b (i : Int) = some (decide (a.drop i = b.drop i))
  | 0, i, hd, hi => by
    obtain rfl : i = a.length := by omega
    rw [PAll.cabinetryref01_SameInts.l0, if_neg (by omega), List.drop_length, he, List.drop_length]
    rfl
  | d + 1, i, hd, hi => by
    have hlt : i < a.length := by omega
    have hltb : i < b.length := by omega
    rw [PAll.cabinetryref01_SameInts.l0, if_pos (by omega), if_pos (by omega), if_pos (by omega), rd_at a i hlt, rd_at b i hltb, drop_at a i hlt, drop_at b i hltb]
    by_cases h : a[i] = b[i]
    · rw [if_pos h, wrap_id (by omega) (by omega), show (i : Int) + 1 = ((i + 1 : Nat) : Int) by omega, sameInts_l0 a b he hl d (i + 1) (by omega) (by omega)]
      rw [h]
      exact congrArg some (decide_eq_decide.2 ⟨fun e => by rw [e], fun e => (List.cons.inj e).2⟩)
    · rw [if_neg h]
      exact congrArg some (decide_eq_false fun e => h (List.cons.inj e).1).symm
theorem sameInts_f (a b : List Int) (hl : a.length ≤ 9223372036854775807) : ∃ k, PAll.cabinetryref01_SameInts.f k a b = some (decide (a = b)) := by
  by_cases h : a.length = b.length
  · refine ⟨a.length + 1, ?_⟩
    rw [PAll.cabinetryref01_SameInts.f, if_pos (by omega)]
    have := sameInts_l0 a b h hl a.length 0 (by omega) (by omega)
    simpa using this
  · refine ⟨0, ?_⟩
    rw [PAll.cabinetryref01_SameInts.f, if_neg (by omega)]
    congr 1
    symm
    rw [decide_eq_false_iff_not]
    rintro rfl
    exact h rfl
theorem SameInts_any (A0 : Option Addr) (c0 : Nat) (l0 : List Int) (A1 : Option Addr) (c1 : Nat) (l1 : List Int) (w : World)
    (hr0 : Kd.C (Kd.int .i64) w A0 l0.length l0) (hc0 : l0.length ≤ c0) (hr1 : Kd.C (Kd.int .i64) w A1 l1.length l1) (hc1 : l1.length ≤ c1) :
    Calls Try.prog 15 #[.slice A0 l0.length c0, .slice A1 l1.length c1] w fun e w' => e = .returned (.bool (decide (l0 = l1))) ∧ Below w.heap.size w w' := by
  obtain ⟨k, hk⟩ := sameInts_f l0 l1 hr0.2.1
  refine (PAll.cabinetryref01_SameInts.calls k A0 c0 l0 A1 c1 l1 _ w hr0 hc0 hr1 hc1 hk).mono ?_
  rintro e w' ⟨rfl, n, rfl⟩
  exact ⟨rfl, pw_below_drewN (Below.refl _ _) n⟩
theorem sameInts_lift (a b : List Int) : ∀ (n k : Nat) (r : Bool), PAll.cabinetryref01_SameInts.f k a b = some r → PAll.cabinetryref01_SameInts.f (k + n) a b = some r
  | 0, k, r, h => h
  | n + 1, k, r, h => PAll.cabinetryref01_SameInts.mono a b (k + n) r (sameInts_lift a b n k r h)
theorem same_any (A0 : Option Addr) (c0 : Nat) (l0 : List Int) (A1 : Option Addr) (c1 : Nat) (l1 : List Int) (B0 : Option Addr) (d0 : Nat) (m0 : List Int) (B1 : Option Addr) (d1 : Nat) (m1 : List Int) (w : World)
    (hr0 : Kd.C (Kd.int .i64) w A0 l0.length l0) (hc0 : l0.length ≤ c0) (hr1 : Kd.C (Kd.int .i64) w A1 l1.length l1) (hc1 : l1.length ≤ c1)
    (hs0 : Kd.C (Kd.int .i64) w B0 m0.length m0) (hd0 : m0.length ≤ d0) (hs1 : Kd.C (Kd.int .i64) w B1 m1.length m1) (hd1 : m1.length ≤ d1) :
    Calls Try.prog 21 #[.agg #[.slice A0 l0.length c0, .slice A1 l1.length c1], .agg #[.slice B0 m0.length d0, .slice B1 m1.length d1]] w fun e w' =>
      e = .returned (.bool (decide (l0 = m0) && decide (l1 = m1))) ∧ Below w.heap.size w w' := by
  obtain ⟨k, hk⟩ := sameInts_f l0 m0 hr0.2.1
  obtain ⟨j, hj⟩ := sameInts_f l1 m1 hr1.2.1
  refine PAll.cabinetrylaw12_same.calls (k + j) A0 c0 l0 A1 c1 l1 B0 d0 m0 B1 d1 m1 _ w hr0 hc0 hr1 hc1 hs0 hd0 hs1 hd1 ?_
  rw [PAll.cabinetrylaw12_same.f, sameInts_lift _ _ j k _ hk, Option.bind_some, Nat.add_comm k j, sameInts_lift _ _ k j _ hj]
  by_cases h : l0 = m0 <;> simp [h]
theorem own_fresh (W : World) (n : Nat) (l : List Int) (hn : n ≤ W.heap.size) (hl : l.length ≤ 9223372036854775807) : Own (W.alloc (.cells (l.map fun x => Value.int .i64 x).toArray 3)) n (.slice (some ⟨W.heap.size, 0, none⟩) l.length l.length) l :=
  Kd.R_of_own (by simpa [nums, encs] using own_lit W n 3 .i64 l hn hl) (fun _ _ => trivial)

theorem alloc_size (w : World) (o : Obj) : (w.alloc o).heap.size = w.heap.size + 1 := Array.size_push _
theorem fresh_C {W W' : World} {n : Nat} (l : List Int) (hn : W.heap.size = n) (hl : l.length ≤ 9223372036854775807) (hb : Below (W.alloc (.cells (l.map fun x => Value.int .i64 x).toArray 3)).heap.size (W.alloc (.cells (l.map fun x => Value.int .i64 x).toArray 3)) W') :
    Kd.C (Kd.int .i64) W' (some ⟨n, 0, none⟩) l.length l := by
  subst hn
  have h := (own_fresh W 0 l (by omega) hl).below (w1 := W') hb
  obtain ⟨A, c, he, hc, hr⟩ := h.slice
  injection he with h1 h2 h3
  rw [h1]
  exact hr
set_option maxRecDepth 100000 in
theorem k_bothE : bothE [1] [1, 2] [2] [1, 2] = 0 := by simp [bothE, valE, setB, setFrom, lessF, joinF]
set_option maxRecDepth 100000 in
theorem k_bothL0 : bothL (fun a b => a && b) [1] [1, 2] [2] [1, 2] [1] [2] = [] := by simp [bothL, valE, setB, setFrom, lessF, joinF]
set_option maxRecDepth 100000 in
theorem k_bothL1 : bothL (fun a b => a && b) [1] [1, 2] [2] [1, 2] [1, 2] [1, 2] = [1, 2] := by simp [bothL, valE, setB, setFrom, lessF, joinF]
theorem k_packE : knownE [2, 3, 5] = 0 := by simp [knownE, setB, setFrom]
set_option maxRecDepth 100000 in
theorem k_packL : packL [2, 3, 5] = [1, 1, 1, 0] := by decide
theorem k_shiftE : shiftE [2, 4, 6] [1, 4] = 0 := by simp [shiftE, setB, setFrom]
set_option maxRecDepth 100000 in
theorem k_shiftL : shiftL [2, 4, 6] [1, 4] = [1, 4] := by simp [shiftL, shiftF, below, lessF, joinF, setB, setFrom]

set_option maxHeartbeats 4000000 in
set_option maxRecDepth 100000 in
theorem known_any (w : World) : Calls Try.prog 12 #[] w fun e w' => e = .returned (.bool true) ∧ Below w.heap.size w w' := by
  have hu29 := Try.underlying29
  have hu22 := Try.underlying22
  go_enter Try.func12, Try.ntmps12
  go_wp2_with fail
  refine (And_any (some ⟨w.heap.size, 0, none⟩) 1 [1] (some ⟨w.heap.size + 1, 0, none⟩) 2 [1, 2] (some ⟨w.heap.size + 1 + 1, 0, none⟩) 1 [2] (some ⟨w.heap.size + 1 + 1 + 1, 0, none⟩) 2 [1, 2] _ ?_ ?_ ?_ ?_ ?_ ?_ ?_ ?_).mono ?_
  any_goals decide
  · exact fresh_C [1] (by simp only [alloc_size]) (by decide) (below_alloc (below_alloc (below_alloc (Below.refl _ _) _) _) _)
  · exact fresh_C (W := w.alloc _) [1, 2] (by simp only [alloc_size]) (by decide) (below_alloc (below_alloc (Below.refl _ _) _) _)
  · exact fresh_C (W := (w.alloc _).alloc _) [2] (by simp only [alloc_size]) (by decide) (below_alloc (Below.refl _ _) _)
  · exact fresh_C (W := ((w.alloc _).alloc _).alloc _) [1, 2] (by simp only [alloc_size]) (by decide) (Below.refl _ _)
  rintro e w1 ⟨v0, v1, rfl, ho0, ho1, hb⟩
  rw [k_bothL0] at ho0
  rw [k_bothL1] at ho1
  rw [k_bothE]
  have HB0 : Aside0 (Below w.heap.size w w1) := ⟨below_step (below_alloc (below_alloc (below_alloc (below_alloc (Below.refl _ _) _) _) _) _) hb⟩
  obtain ⟨A0, c0, rfl, hc0, hr0⟩ := ho0.slice
  obtain ⟨A1, c1, rfl, hc1, hr1⟩ := ho1.slice
  have HR0 := Aside0.mk hr0
  have HR1 := Aside0.mk hr1
  clear ho0 ho1 hb hr0 hr1
  have BK : Aside0 ((w1.alloc (.cells #[.slice A0 0 c0, .slice A1 2 c1] 29)).heap[w1.heap.size]? = some (.cells #[.slice A0 0 c0, .slice A1 2 c1] 29 (0, 0))) := ⟨blk_new _ _⟩
  have HB1 : Aside0 (Below w1.heap.size w1 (w1.alloc (.cells #[.slice A0 0 c0, .slice A1 2 c1] 29))) := ⟨below_alloc (Below.refl _ _) _⟩
  have HW1 : Aside0 ((w1.alloc (.cells #[.slice A0 0 c0, .slice A1 2 c1] 29)).heap.size = w1.heap.size + 1) := ⟨alloc_size _ _⟩
  go_wp2_with fail
  generalize w1.alloc (.cells #[.slice A0 0 c0, .slice A1 2 c1] 29) = w2 at *
  rw [← HW1.out]
  refine (Pack_any (some ⟨w2.heap.size, 0, none⟩) 3 [2, 3, 5] _ (fresh_C [2, 3, 5] rfl (by decide) (Below.refl _ _)) (by decide)).mono ?_
  rintro e w3 ⟨v, rfl, ho, hb⟩
  rw [k_packL] at ho
  rw [k_packE]
  obtain ⟨A3, c3, rfl, hc3, hr3⟩ := ho.slice
  have HR3 := Aside0.mk hr3
  have HB3 : Aside0 (Below w2.heap.size w2 w3) := ⟨below_step (below_alloc (Below.refl _ _) _) hb⟩
  clear ho hb hr3
  go_wp2_with fail
  refine (Shift_any (some ⟨w3.heap.size, 0, none⟩) 3 [2, 4, 6] (some ⟨w3.heap.size + 1, 0, none⟩) 2 [1, 4] _ (fresh_C [2, 4, 6] rfl (by decide) (below_alloc (Below.refl _ _) _)) (by decide) (fresh_C (W := w3.alloc _) [1, 4] (by simp only [alloc_size]) (by decide) (Below.refl _ _)) (by decide)).mono ?_
  rintro e w4 ⟨v, rfl, ho, hb⟩
  rw [k_shiftL] at ho
  rw [k_shiftE]
  obtain ⟨A4, c4, rfl, hc4, hr4⟩ := ho.slice
  have HR4 := Aside0.mk hr4
  have HB4 : Aside0 (Below w3.heap.size w3 w4) := ⟨below_step (below_alloc (below_alloc (Below.refl _ _) _) _) hb⟩
  clear ho hb hr4
  have hBK : w4.heap[w1.heap.size]? = some (.cells #[.slice A0 0 c0, .slice A1 2 c1] 29 (0, 0)) := by
    rw [HB4.out.block _ (by have := HB3.out.size; rw [HW1.out] at this; omega), HB3.out.block _ (by rw [HW1.out]; omega)]
    exact BK.out
  have hcc0 : w4.cell? ⟨w1.heap.size, 0, none⟩ = some (.slice A0 0 c0) := (blk_cell hBK 0).trans rfl
  have hcc1 : w4.cell? ⟨w1.heap.size, 1, none⟩ = some (.slice A1 2 c1) := (blk_cell hBK 1).trans rfl
  clear hBK
  go_wp2_with fail
  have HB14 : Below w1.heap.size w1 w4 := below_step (below_step HB1.out HB3.out) HB4.out
  refine (same_any A0 c0 [] A1 c1 [1, 2] none 0 [] (some ⟨w4.heap.size, 0, none⟩) 2 [1, 2] _ (Kd.C_alloc (Kd.C_below HR0.out HB14) _) hc0 (Kd.C_alloc (Kd.C_below HR1.out HB14) _) hc1 (Kd.C_nil _ _) (by decide) (fresh_C [1, 2] rfl (by decide) (Below.refl _ _)) (by decide)).mono ?_
  rintro e w5 ⟨rfl, hb⟩
  rw [show (decide (([] : List Int) = []) && decide (([1, 2] : List Int) = [1, 2])) = true from by decide]
  have HB5 : Aside0 (Below w4.heap.size w4 w5) := ⟨below_step (below_alloc (Below.refl _ _) _) hb⟩
  have hcv : (convert 53 9 (.slice A3 4 c3)).run Try.prog w5 = .ok (.string { data := #[1, 1, 1, 0] }) w5 := Kd.C_string (xs := [1, 1, 1, 0]) (P := Try.prog) (A := A3) (c := c3) Try.underlying53 Try.underlying5 Try.underlying9 (Kd.C_below HR3.out (below_step HB4.out HB5.out))
  clear hb HB14 hcc0 hcc1
  go_wp2_with fail
  refine (SameInts_any A4 c4 [1, 4] (some ⟨w5.heap.size, 0, none⟩) 2 [1, 4] _ (Kd.C_alloc (Kd.C_below HR4.out HB5.out) _) hc4 (fresh_C [1, 4] rfl (by decide) (Below.refl _ _)) (by decide)).mono ?_
  rintro e w6 ⟨rfl, hb⟩
  rw [show decide (([1, 4] : List Int) = [1, 4]) = true from by decide]
  have HB6 : Aside0 (Below w5.heap.size w5 w6) := ⟨below_step (below_alloc (Below.refl _ _) _) hb⟩
  clear hb
  go_wp2_with fail
  go_ret
  exact ⟨rfl, below_step (below_step (below_step (below_step HB0.out (below_step HB1.out HB3.out)) HB4.out) HB5.out) HB6.out⟩
end Go.Proofs.Ytpbdlkbiiglkdaa

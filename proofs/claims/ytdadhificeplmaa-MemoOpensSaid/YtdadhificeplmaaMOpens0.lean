/- What the law's proof stands on: contracts and plain laws. -/
import Derived.Test.YtdadhificeplmaaRows
import Derived.Test.YtdadhificeplmaaWSized
import Derived.Test.YtdadhificeplmaaWWords
import Derived.WalkKit
import Derived.ProofKit
import Derived.OpenShut
import Derived.ShutString
import Derived.ChangeOld
import Derived.Below
import Derived.Orders
import Derived.KernelRfl
import Derived.OrdersHeld
import Derived.Test.YtdadhificeplmaaProg
import Derived.Conc.MuLib
import Derived.Conc.MuLone
import Derived.Test.YtdadhificeplmaaPAllx
import Derived.Defers
import Derived.RangeFuncNested
import Derived.RangeFuncBound
import Derived.RangeFuncCalls
import Derived.RangeFuncLeaves
import Derived.Shelf.Abstract
import Derived.OwnWalkIn
import Derived.TacticsInMore
import Derived.LoopNIn
import Derived.LoopIn
import Derived.RegionTactic
import Derived.ChangeAlike
import Derived.BigRegion
import Derived.Deep.QuietTactic
import Derived.BigQuiet
import Derived.Deep.RegionHeld3
import Derived.Laws.BitsLemmas
import Derived.Lib.BufferWrite
import Derived.Deep.CutRange

/- Arguments opened: slices of whole numbers, in whatever world they came; the row's own closed facts. -/
set_option linter.unusedVariables false
namespace Go.Proofs.Ytdadhificeplmaa
open Go.ChangeShapes Go.WideShapes Go.ChangeAt Go.RowKit Go.Proofs.YtdadhificeplmaaW.PrintWords

theorem own : ownKnob Try.prog.godebug = none := by kernel_rfl
theorem laidOut : laidOutB Try.prog = true := by kernel_rfl

/-- A slice of whole numbers that came in. -/
def Came (k : IntKind) (w : World) (v : Value) : Prop := ∃ (A : Option Addr) (c : Nat) (l : List Int), v = .slice A l.length c ∧ l.length ≤ c ∧ l.length ≤ maxLen ∧ Kd.C (Kd.int k) w A l.length l ∧ ∀ x ∈ l, (Lit.int k x).wf = true

theorem came_of_row {k : IntKind} {w : World} {a : Option Addr} {len cap : Nat} {zs : List Int} (h : (a = none ∧ len = 0 ∧ cap = 0 ∧ zs = []) ∨ ∃ x, a = some x ∧ len ≤ cap ∧ cap ≤ maxLen ∧ zs.length = cap ∧ (∀ i, i < zs.length → w.cell? (x.add i) = some (.int k (zs.getD i 0))) ∧ ∀ n ∈ zs, (Lit.int k n).wf = true) :
    Came k w (.slice a len cap) := by
  have hle : len ≤ cap := by
    rcases h with ⟨_, rfl, rfl, _⟩ | ⟨_, _, h, _⟩
    · exact Nat.le_refl _
    · exact h
  obtain ⟨l, rfl, hr, hm, hw⟩ := ReadsInt.ofRow h
  exact ⟨a, cap, l, rfl, hle, hm, Kd.C_of_reads (enc := Value.int k) (d := (0 : Int)) (h1 := fun _ => rfl) hr, hw⟩

section
variable {H : Type} {enc : TypeId × Value → H} {P : Program} {w : World} {base : Nat} {held : Bool}
theorem came_trod {t e : TypeId} {k : IntKind} {fuel : Nat} {cs : List Value} {x : DataW H × List MemPlace} (ht : P.underlying t = some (.slice e)) (he : P.underlying e = some (.int k)) (hc : P.cellsOf e = 1)
    (h : DataW.trod enc P w base (fun _ => true) held fuel t cs = some x) : ∃ v, cs = [v] ∧ Came k w v := by
  rcases open_ints ht he hc h with ⟨rfl, _⟩ | ⟨a, len, cap, zs, rfl, _, hl, hm, hz, _, hcell, hwz⟩
  · exact ⟨_, rfl, came_of_row (zs := []) (.inl ⟨rfl, rfl, rfl, rfl⟩)⟩
  · exact ⟨_, rfl, came_of_row (.inr ⟨a, rfl, hl, hm, by simpa using hz, hcell, hwz⟩)⟩
theorem came_arg {t e : TypeId} {k : IntKind} {b0 : Nat} {r : Reach} {v : Value} {d : DataW H} {ps : List MemPlace} (ht : P.underlying t = some (.slice e)) (he : P.underlying e = some (.int k)) (hc : P.cellsOf e = 1) (hv : Value.okWide P w r b0 t v)
    (h : DataW.Trod enc P w base (fun _ => true) held t v d ps) : Came k w v := by
  obtain ⟨a, len, cap, rfl⟩ := okWide_slice ht hv
  obtain ⟨fuel, hf⟩ := h
  obtain ⟨v, hv, hc⟩ := came_trod ht he hc hf
  simp [Value.cells] at hv
  rw [hv]; exact hc
theorem lt_trod {t : TypeId} {v : Value} {d : DataW H} {ps : List MemPlace} {spare : Nat → Bool} (h : DataW.Trod enc P w base spare held t v d ps) : ∀ x ∈ ps, x.block < w.heap.size := by
  obtain ⟨m, hm⟩ := h
  exact DataW.trod_lt m _ _ _ hm
end
end Go.Proofs.Ytdadhificeplmaa

/- A region whose order is open comes to what one fixed order of its operations comes to: reads and reckonings first. -/
set_option linter.unusedVariables false
set_option linter.unusedSimpArgs false
namespace Go.Proofs.Cab

/-- What answers, answers the same in every world, and leaves it. -/
def PU (P : Program) {α : Type} (s : Sem α) : Prop := ∀ w v w1, s.run P w = .ok v w1 → w1 = w ∧ ∀ w2, s.run P w2 = .ok v w2
/-- The heap has grown, no old block has turned. -/
def Ext (w w' : World) : Prop := ∀ k, k < w.heap.size → w'.heap[k]? = w.heap[k]?
/-- What answers, answers the same in every grown world, and leaves the world. -/
def RO (P : Program) {α : Type} (s : Sem α) : Prop := ∀ w v w1, s.run P w = .ok v w1 → w1 = w ∧ ∀ w2, Ext w w2 → s.run P w2 = .ok v w2

theorem Ext.refl (w : World) : Ext w w := fun _ _ => rfl
section
variable {P : Program} {α β : Type}
theorem PU.pure_ (a : α) : PU P (pure a : Sem α) := by
  intro w v w1 h
  simp only [Sem.run_pure, Result.ok.injEq] at h
  exact ⟨h.2.symm, fun w2 => by rw [Sem.run_pure, h.1]⟩
theorem PU.halt_ (x : Halt) : PU P (.halt x : Sem α) := by
  intro w v w1 h
  simp [Sem.run] at h
theorem PU.program_ (k : Program → Sem α) (h : PU P (k P)) : PU P (.program k) := h
theorem PU.bind_ {s : Sem α} {f : α → Sem β} (hs : PU P s) (hf : ∀ a, PU P (f a)) : PU P (s >>= f) := by
  intro w v w1 h
  rw [Sem.run_bind] at h
  cases hr : s.run P w with
  | halt x w' => rw [hr] at h; simp [Result.andThen] at h
  | ok a w' =>
    rw [hr] at h
    obtain ⟨rfl, h2⟩ := hs w a w' hr
    obtain ⟨e, h3⟩ := hf a _ v w1 h
    exact ⟨e, fun w2 => by rw [Sem.run_bind, h2 w2]; exact h3 w2⟩
theorem PU.ro {s : Sem α} (h : PU P s) : RO P s := fun w v w1 hr => ⟨(h w v w1 hr).1, fun w2 _ => (h w v w1 hr).2 w2⟩
theorem RO.bind_ {s : Sem α} {f : α → Sem β} (hs : RO P s) (hf : ∀ a, RO P (f a)) : RO P (s >>= f) := by
  intro w v w1 h
  rw [Sem.run_bind] at h
  cases hr : s.run P w with
  | halt x w' => rw [hr] at h; simp [Result.andThen] at h
  | ok a w' =>
    rw [hr] at h
    obtain ⟨rfl, h2⟩ := hs w a w' hr
    obtain ⟨e, h3⟩ := hf a _ v w1 h
    refine ⟨e, fun w2 hx => ?_⟩
    rw [Sem.run_bind, h2 w2 hx]
    exact h3 w2 hx
theorem RO.pure_ (a : α) : RO P (pure a : Sem α) := (PU.pure_ a).ro
/-- What never answers. -/
def No (P : Program) {α : Type} (s : Sem α) : Prop := ∀ w v w1, s.run P w ≠ .ok v w1
theorem No.pu {s : Sem α} (h : No P s) : PU P s := fun w v w1 hr => absurd hr (h w v w1)
theorem No.halt_ (x : Halt) : No P (.halt x : Sem α) := by intro w v w1 h; simp [Sem.run] at h
theorem No.bind_ {s : Sem α} {f : α → Sem β} (hf : ∀ a, No P (f a)) : No P (s >>= f) := by
  intro w v w1 h
  rw [Sem.run_bind] at h
  cases hr : s.run P w with
  | halt x w' => rw [hr] at h; simp [Result.andThen] at h
  | ok a w' => rw [hr] at h; exact hf a _ _ _ h
theorem No.runtimePanic (e : RuntimeError) : No P (Go.runtimePanic e : Sem α) := by
  unfold Go.runtimePanic
  refine No.bind_ fun p => ?_
  cases e <;> first | exact No.halt_ _ | (refine No.bind_ fun _ => ?_; first | exact No.halt_ _ | (refine No.bind_ fun _ => ?_; exact No.halt_ _))
theorem No.boundsPanic (k : IntKind) (x y : Int) (c : BoundsCode) : No P (Go.boundsPanic k x y c : Sem α) := by
  unfold Go.boundsPanic
  dsimp only
  split <;> exact No.bind_ fun _ => No.runtimePanic _
theorem PU.stuck_ (m : String) : PU P (Go.stuck m : Sem α) := PU.halt_ _
theorem PU.unsup_ (m : Unsupported) : PU P (Go.unsupported m : Sem α) := PU.halt_ _
theorem PU.underlying (t : TypeId) : PU P (Go.underlying t) := by
  unfold Go.underlying
  refine PU.bind_ (PU.program_ _ (PU.pure_ _)) fun p => ?_
  split
  · exact PU.pure_ _
  · exact PU.stuck_ _
theorem PU.typeInfo (t : TypeId) : PU P (Go.typeInfo t) := by
  unfold Go.typeInfo
  refine PU.bind_ (PU.program_ _ (PU.pure_ _)) fun p => ?_
  split
  · exact PU.pure_ _
  · exact PU.stuck_ _
theorem PU.sizeOf (t : TypeId) : PU P (Go.sizeOf t) := PU.bind_ (PU.typeInfo t) fun _ => PU.pure_ _
theorem PU.zeroValue (t : TypeId) : PU P (Go.zeroValue t) := by
  unfold Go.zeroValue
  refine PU.bind_ (PU.typeInfo t) fun p => ?_
  split
  · exact PU.pure_ _
  · exact PU.unsup_ _
theorem PU.asIntOf (v : Value) : PU P (Go.asIntOf v) := by
  unfold Go.asIntOf
  split
  · exact PU.pure_ _
  · exact PU.unsup_ _
  · exact PU.stuck_ _
theorem PU.sureAddr (v : Value) : PU P (Go.Instr.sureAddr v) := by
  unfold Go.Instr.sureAddr
  split
  · exact PU.pure_ _
  · exact PU.stuck_ _
theorem PU.isAgg (t : TypeId) : PU P (Go.isAgg t) := by
  unfold Go.isAgg
  refine PU.bind_ (PU.underlying t) fun d => ?_
  split <;> exact PU.pure_ _
theorem PU.part (t : TypeId) (cs : Array Value) (n : Nat) : PU P (Go.part t cs n) := by
  unfold Go.part
  refine PU.bind_ (PU.isAgg t) fun d => ?_
  split
  · exact PU.bind_ (PU.sizeOf t) fun _ => PU.pure_ _
  · split
    · exact PU.pure_ _
    · exact PU.stuck_ _
theorem PU.sliceBound (x : Value) (y : Nat) (c : BoundsCode) : PU P (Go.Instr.sliceBound x y c) := by
  unfold Go.Instr.sliceBound
  refine PU.bind_ (PU.asIntOf x) fun d => ?_
  dsimp only
  split
  · exact PU.pure_ _
  · exact (No.boundsPanic _ _ _ _).pu
theorem PU.sliceBounds (b : Bool) (n c : Nat) (lo hi mx : Option Value) : PU P (Go.Instr.sliceBounds b n c lo hi mx) := by
  unfold Go.Instr.sliceBounds
  have last : ∀ (h m : Nat), PU P (do
      let l ← match lo with
        | some v => Go.Instr.sliceBound v h (if mx.isSome then .slice3C else .sliceB)
        | none => pure 0
      pure (l, h, m) : Sem (Nat × Nat × Nat)) := fun h m => by
    cases lo with
    | none => exact PU.bind_ (PU.pure_ _) fun _ => PU.pure_ _
    | some v => exact PU.bind_ (PU.sliceBound _ _ _) fun _ => PU.pure_ _
  cases mx with
  | none =>
    refine PU.bind_ (PU.pure_ _) fun m => ?_
    cases hi with
    | none => exact PU.bind_ (PU.pure_ _) fun h => last h m
    | some v => exact PU.bind_ (PU.sliceBound _ _ _) fun h => last h m
  | some u =>
    refine PU.bind_ (PU.sliceBound _ _ _) fun m => ?_
    cases hi with
    | none => exact PU.bind_ (PU.stuck_ _) fun h => last h m
    | some v => exact PU.bind_ (PU.sliceBound _ _ _) fun h => last h m
theorem PU.slice (t : TypeId) (x : Value) (lo hi mx : Option Value) : PU P (Go.Instr.slice t x lo hi mx) := by
  unfold Go.Instr.slice Go.asAddr
  repeat' first
    | exact PU.pure_ _
    | exact PU.stuck_ _
    | exact PU.unsup_ _
    | exact PU.underlying _
    | exact PU.typeInfo _
    | exact PU.sizeOf _
    | exact PU.isAgg _
    | exact PU.part _ _ _
    | exact PU.asIntOf _
    | exact PU.sureAddr _
    | exact PU.sliceBound _ _ _
    | exact PU.sliceBounds _ _ _ _ _ _
    | exact (No.boundsPanic _ _ _ _).pu
    | exact (No.runtimePanic _).pu
    | exact PU.halt_ _
    | refine PU.bind_ ?_ (fun _ => ?_)
    | split
    | dsimp only
theorem PU.sliceAt (t : TypeId) (x : Value) (lo hi mx : Option Value) : PU P (Go.Instr.sliceAt t x lo hi mx) := by
  unfold Go.Instr.sliceAt
  repeat' first
    | exact PU.pure_ _
    | exact PU.stuck_ _
    | exact PU.unsup_ _
    | exact PU.underlying _
    | exact PU.typeInfo _
    | exact PU.sizeOf _
    | exact PU.isAgg _
    | exact PU.part _ _ _
    | exact PU.asIntOf _
    | exact PU.sureAddr _
    | exact PU.sliceBound _ _ _
    | exact PU.sliceBounds _ _ _ _ _ _
    | exact PU.slice _ _ _ _ _
    | exact (No.boundsPanic _ _ _ _).pu
    | exact (No.runtimePanic _).pu
    | exact PU.halt_ _
    | refine PU.bind_ ?_ (fun _ => ?_)
    | split
    | dsimp only
theorem PU.indexAt (t : TypeId) (x i : Value) : PU P (Go.Instr.indexAt t x i) := by
  unfold Go.Instr.indexAt
  repeat' first
    | exact PU.pure_ _
    | exact PU.stuck_ _
    | exact PU.unsup_ _
    | exact PU.underlying _
    | exact PU.typeInfo _
    | exact PU.sizeOf _
    | exact PU.isAgg _
    | exact PU.part _ _ _
    | exact PU.asIntOf _
    | exact PU.sureAddr _
    | exact PU.sliceBound _ _ _
    | exact PU.sliceBounds _ _ _ _ _ _
    | exact PU.slice _ _ _ _ _
    | exact (No.boundsPanic _ _ _ _).pu
    | exact (No.runtimePanic _).pu
    | exact PU.halt_ _
    | refine PU.bind_ ?_ (fun _ => ?_)
    | split
    | dsimp only
theorem PU.index (t : TypeId) (x i : Value) : PU P (Go.Instr.index t x i) := by
  unfold Go.Instr.index
  repeat' first
    | exact PU.pure_ _
    | exact PU.stuck_ _
    | exact PU.unsup_ _
    | exact PU.underlying _
    | exact PU.typeInfo _
    | exact PU.sizeOf _
    | exact PU.isAgg _
    | exact PU.part _ _ _
    | exact PU.asIntOf _
    | exact PU.sureAddr _
    | exact PU.sliceBound _ _ _
    | exact PU.sliceBounds _ _ _ _ _ _
    | exact PU.slice _ _ _ _ _
    | exact (No.boundsPanic _ _ _ _).pu
    | exact (No.runtimePanic _).pu
    | exact PU.halt_ _
    | refine PU.bind_ ?_ (fun _ => ?_)
    | split
    | dsimp only
theorem PU.field (t : TypeId) (x : Value) (n : Nat) : PU P (Go.Instr.field t x n) := by
  unfold Go.Instr.field Go.asAgg
  repeat' first
    | exact PU.pure_ _
    | exact PU.stuck_ _
    | exact PU.unsup_ _
    | exact PU.underlying _
    | exact PU.typeInfo _
    | exact PU.sizeOf _
    | exact PU.isAgg _
    | exact PU.part _ _ _
    | exact PU.asIntOf _
    | exact PU.sureAddr _
    | exact PU.sliceBound _ _ _
    | exact PU.sliceBounds _ _ _ _ _ _
    | exact PU.slice _ _ _ _ _
    | exact (No.boundsPanic _ _ _ _).pu
    | exact (No.runtimePanic _).pu
    | exact PU.halt_ _
    | refine PU.bind_ ?_ (fun _ => ?_)
    | split
    | dsimp only
theorem PU.extract (x : Value) (n : Nat) : PU P (Go.Instr.extract x n) := by
  unfold Go.Instr.extract
  repeat' first
    | exact PU.pure_ _
    | exact PU.stuck_ _
    | exact PU.unsup_ _
    | exact PU.underlying _
    | exact PU.typeInfo _
    | exact PU.sizeOf _
    | exact PU.isAgg _
    | exact PU.part _ _ _
    | exact PU.asIntOf _
    | exact PU.sureAddr _
    | exact PU.sliceBound _ _ _
    | exact PU.sliceBounds _ _ _ _ _ _
    | exact PU.slice _ _ _ _ _
    | exact (No.boundsPanic _ _ _ _).pu
    | exact (No.runtimePanic _).pu
    | exact PU.halt_ _
    | refine PU.bind_ ?_ (fun _ => ?_)
    | split
    | dsimp only
theorem PU.unary (o : UnOp) (x : Value) : PU P (Go.Op.unary o x) := by
  unfold Go.Op.unary Go.Op.intArith Go.Op.intBits
  repeat' first
    | exact PU.pure_ _
    | exact PU.stuck_ _
    | exact PU.unsup_ _
    | exact PU.underlying _
    | exact PU.typeInfo _
    | exact PU.sizeOf _
    | exact PU.isAgg _
    | exact PU.part _ _ _
    | exact PU.asIntOf _
    | exact PU.sureAddr _
    | exact PU.sliceBound _ _ _
    | exact PU.sliceBounds _ _ _ _ _ _
    | exact PU.slice _ _ _ _ _
    | exact (No.boundsPanic _ _ _ _).pu
    | exact (No.runtimePanic _).pu
    | exact PU.halt_ _
    | refine PU.bind_ ?_ (fun _ => ?_)
    | split
    | dsimp only
theorem PU.binInt (o : BinOp) (t : TypeId) (k k' : IntKind) (a b : Int) : PU P (Go.binOp o t (.int k a) (.int k' b)) := by
  by_cases hk : k = k'
  · subst hk
    cases o <;> simp only [Go.binOp, ne_eq, not_true_eq_false, if_false, Go.Op.intArith, Go.Op.intBits, Go.Op.intDiv, Go.Op.intCmp, Go.Op.shift]
    all_goals
      repeat' first
        | exact PU.pure_ _
        | exact PU.stuck_ _
        | exact PU.unsup_ _
        | exact PU.underlying _
        | exact PU.typeInfo _
        | exact PU.sizeOf _
        | exact PU.isAgg _
        | exact PU.part _ _ _
        | exact PU.asIntOf _
        | exact PU.sureAddr _
        | exact PU.sliceBound _ _ _
        | exact PU.sliceBounds _ _ _ _ _ _
        | exact PU.slice _ _ _ _ _
        | exact (No.boundsPanic _ _ _ _).pu
        | exact (No.runtimePanic _).pu
        | exact PU.halt_ _
        | refine PU.bind_ ?_ (fun _ => ?_)
        | split
        | dsimp only
  · cases o <;> simp only [Go.binOp, ne_eq, hk, not_false_eq_true, if_true, Go.Op.shift]
    all_goals
      repeat' first
        | exact PU.pure_ _
        | exact PU.stuck_ _
        | exact PU.unsup_ _
        | exact PU.underlying _
        | exact PU.typeInfo _
        | exact PU.sizeOf _
        | exact PU.isAgg _
        | exact PU.part _ _ _
        | exact PU.asIntOf _
        | exact PU.sureAddr _
        | exact PU.sliceBound _ _ _
        | exact PU.sliceBounds _ _ _ _ _ _
        | exact PU.slice _ _ _ _ _
        | exact (No.boundsPanic _ _ _ _).pu
        | exact (No.runtimePanic _).pu
        | exact PU.halt_ _
        | refine PU.bind_ ?_ (fun _ => ?_)
        | split
        | dsimp only
theorem PU.binStr (o : BinOp) (t : TypeId) (a b : ByteArray) : PU P (Go.binOp o t (.string a) (.string b)) := by
  cases o <;> simp only [Go.binOp, Go.Op.stringOp]
  all_goals
    repeat' first
      | exact PU.pure_ _
      | exact PU.stuck_ _
      | exact PU.unsup_ _
      | exact PU.underlying _
      | exact PU.typeInfo _
      | exact PU.sizeOf _
      | exact PU.isAgg _
      | exact PU.part _ _ _
      | exact PU.asIntOf _
      | exact PU.sureAddr _
      | exact PU.sliceBound _ _ _
      | exact PU.sliceBounds _ _ _ _ _ _
      | exact PU.slice _ _ _ _ _
      | exact (No.boundsPanic _ _ _ _).pu
      | exact (No.runtimePanic _).pu
      | exact PU.halt_ _
      | refine PU.bind_ ?_ (fun _ => ?_)
      | split
      | dsimp only
theorem PU.equalInBool (n : Nat) (t : TypeId) (a b : Bool) : PU P (Go.Op.equalIn (n + 1) t (.bool a) (.bool b)) := by
  simp only [Go.Op.equalIn]
  repeat' first
    | contradiction
    | exact PU.pure_ _
    | exact PU.stuck_ _
    | exact PU.unsup_ _
    | exact PU.underlying _
    | exact PU.typeInfo _
    | exact PU.sizeOf _
    | exact PU.isAgg _
    | exact PU.part _ _ _
    | exact PU.asIntOf _
    | exact PU.sureAddr _
    | exact PU.sliceBound _ _ _
    | exact PU.sliceBounds _ _ _ _ _ _
    | exact PU.slice _ _ _ _ _
    | exact (No.boundsPanic _ _ _ _).pu
    | exact (No.runtimePanic _).pu
    | exact PU.halt_ _
    | refine PU.bind_ ?_ (fun _ => ?_)
    | split
    | dsimp only
theorem PU.equalBool (t : TypeId) (a b : Bool) : PU P (Go.Op.equal t (.bool a) (.bool b)) := PU.equalInBool 9999 t a b
theorem PU.binBool (o : BinOp) (t : TypeId) (a b : Bool) : PU P (Go.binOp o t (.bool a) (.bool b)) := by
  cases o <;> simp only [Go.binOp]
  all_goals first
    | exact PU.stuck_ _
    | exact PU.bind_ (PU.equalBool _ _ _) fun _ => PU.pure_ _
theorem PU.eqGuardInt (o : BinOp) (t : TypeId) (x y : Operand) (k k' : IntKind) (a b : Int) : PU P (Go.eqGuard o t x y (.int k a) (.int k' b)) := by
  unfold Go.eqGuard
  repeat' first
    | exact PU.pure_ _
    | exact PU.stuck_ _
    | exact PU.unsup_ _
    | exact PU.underlying _
    | exact PU.typeInfo _
    | exact PU.sizeOf _
    | exact PU.isAgg _
    | exact PU.part _ _ _
    | exact PU.asIntOf _
    | exact PU.sureAddr _
    | exact PU.sliceBound _ _ _
    | exact PU.sliceBounds _ _ _ _ _ _
    | exact PU.slice _ _ _ _ _
    | exact (No.boundsPanic _ _ _ _).pu
    | exact (No.runtimePanic _).pu
    | exact PU.halt_ _
    | refine PU.bind_ ?_ (fun _ => ?_)
    | split
    | dsimp only
theorem PU.eqGuardStr (o : BinOp) (t : TypeId) (x y : Operand) (a b : ByteArray) : PU P (Go.eqGuard o t x y (.string a) (.string b)) := by
  unfold Go.eqGuard
  repeat' first
    | exact PU.pure_ _
    | exact PU.stuck_ _
    | exact PU.unsup_ _
    | exact PU.underlying _
    | exact PU.typeInfo _
    | exact PU.sizeOf _
    | exact PU.isAgg _
    | exact PU.part _ _ _
    | exact PU.asIntOf _
    | exact PU.sureAddr _
    | exact PU.sliceBound _ _ _
    | exact PU.sliceBounds _ _ _ _ _ _
    | exact PU.slice _ _ _ _ _
    | exact (No.boundsPanic _ _ _ _).pu
    | exact (No.runtimePanic _).pu
    | exact PU.halt_ _
    | refine PU.bind_ ?_ (fun _ => ?_)
    | split
    | dsimp only
theorem PU.eqGuardBool (o : BinOp) (t : TypeId) (x y : Operand) (a b : Bool) : PU P (Go.eqGuard o t x y (.bool a) (.bool b)) := by
  unfold Go.eqGuard
  repeat' first
    | exact PU.pure_ _
    | exact PU.stuck_ _
    | exact PU.unsup_ _
    | exact PU.underlying _
    | exact PU.typeInfo _
    | exact PU.sizeOf _
    | exact PU.isAgg _
    | exact PU.part _ _ _
    | exact PU.asIntOf _
    | exact PU.sureAddr _
    | exact PU.sliceBound _ _ _
    | exact PU.sliceBounds _ _ _ _ _ _
    | exact PU.slice _ _ _ _ _
    | exact (No.boundsPanic _ _ _ _).pu
    | exact (No.runtimePanic _).pu
    | exact PU.halt_ _
    | refine PU.bind_ ?_ (fun _ => ?_)
    | split
    | dsimp only
theorem PU.lenSlice (ts : Array TypeId) (t : TypeId) (A : Option Addr) (n c : Nat) : PU P (Go.Builtin.len_ ts t #[.slice A n c]) := by
  unfold Go.Builtin.len_
  repeat' first
    | exact PU.pure_ _
    | exact PU.stuck_ _
    | exact PU.unsup_ _
    | exact PU.underlying _
    | exact PU.typeInfo _
    | exact PU.sizeOf _
    | exact PU.isAgg _
    | exact PU.part _ _ _
    | exact PU.asIntOf _
    | exact PU.sureAddr _
    | exact PU.sliceBound _ _ _
    | exact PU.sliceBounds _ _ _ _ _ _
    | exact PU.slice _ _ _ _ _
    | exact (No.boundsPanic _ _ _ _).pu
    | exact (No.runtimePanic _).pu
    | exact PU.halt_ _
    | refine PU.bind_ ?_ (fun _ => ?_)
    | split
    | dsimp only
    | (exfalso; simp_all; done)
theorem PU.lenString (ts : Array TypeId) (t : TypeId) (x : ByteArray) : PU P (Go.Builtin.len_ ts t #[.string x]) := by
  unfold Go.Builtin.len_
  repeat' first
    | exact PU.pure_ _
    | exact PU.stuck_ _
    | exact PU.unsup_ _
    | exact PU.underlying _
    | exact PU.typeInfo _
    | exact PU.sizeOf _
    | exact PU.isAgg _
    | exact PU.part _ _ _
    | exact PU.asIntOf _
    | exact PU.sureAddr _
    | exact PU.sliceBound _ _ _
    | exact PU.sliceBounds _ _ _ _ _ _
    | exact PU.slice _ _ _ _ _
    | exact (No.boundsPanic _ _ _ _).pu
    | exact (No.runtimePanic _).pu
    | exact PU.halt_ _
    | refine PU.bind_ ?_ (fun _ => ?_)
    | split
    | dsimp only
    | (exfalso; simp_all; done)
theorem PU.capSlice (ts : Array TypeId) (t : TypeId) (A : Option Addr) (n c : Nat) : PU P (Go.Builtin.cap_ ts t #[.slice A n c]) := by
  unfold Go.Builtin.cap_
  repeat' first
    | exact PU.pure_ _
    | exact PU.stuck_ _
    | exact PU.unsup_ _
    | exact PU.underlying _
    | exact PU.typeInfo _
    | exact PU.sizeOf _
    | exact PU.isAgg _
    | exact PU.part _ _ _
    | exact PU.asIntOf _
    | exact PU.sureAddr _
    | exact PU.sliceBound _ _ _
    | exact PU.sliceBounds _ _ _ _ _ _
    | exact PU.slice _ _ _ _ _
    | exact (No.boundsPanic _ _ _ _).pu
    | exact (No.runtimePanic _).pu
    | exact PU.halt_ _
    | refine PU.bind_ ?_ (fun _ => ?_)
    | split
    | dsimp only
    | (exfalso; simp_all; done)
theorem PU.convInt (s d : TypeId) (k : IntKind) (n : Int) (hs : ∃ ks, P.underlying s = some (.int ks)) (hd : ∃ kd, P.underlying d = some (.int kd)) : PU P (Go.convert s d (.int k n)) := by
  obtain ⟨ks, hs⟩ := hs
  obtain ⟨kd, hd⟩ := hd
  have h : ∀ w, (Go.convert s d (.int k n)).run P w = .ok (.int kd (kd.wrap n)) w := fun w => by
    simp [Go.convert, run_underlying hs, run_underlying hd, Go.Conv.intToInt]
  intro w v w1 hr
  rw [h] at hr
  simp only [Result.ok.injEq] at hr
  exact ⟨hr.2.symm, fun w2 => by rw [h, hr.1]⟩
theorem PU.mapMl {γ : Type} {f : γ → Sem β} (hf : ∀ a, PU P (f a)) : ∀ l : List γ, PU P (l.mapM f)
  | [] => by rw [List.mapM_nil]; exact PU.pure_ _
  | a :: l => by rw [List.mapM_cons]; exact PU.bind_ (hf a) fun _ => PU.bind_ (PU.mapMl hf l) fun _ => PU.pure_ _
theorem PU.map_ {s : Sem α} (f : α → β) (h : PU P s) : PU P (f <$> s) := by
  rw [map_eq_pure_bind]
  exact PU.bind_ h fun _ => PU.pure_ _
theorem PU.mapMa {γ : Type} {f : γ → Sem β} (hf : ∀ a, PU P (f a)) (l : Array γ) : PU P (l.mapM f) := by
  rw [Array.mapM_eq_mapM_toList]
  exact PU.map_ _ (PU.mapMl hf _)
theorem PU.build (t : TypeId) (ps : Array (Nat × Value)) : PU P (Go.Instr.build t ps) := by
  unfold Go.Instr.build
  refine PU.bind_ (PU.zeroValue t) fun z => ?_
  dsimp only
  refine PU.bind_ (PU.underlying t) fun d => ?_
  split
  · refine PU.bind_ (PU.mapMa (fun f => PU.bind_ (PU.sizeOf _) fun _ => PU.pure_ _) _) fun pl => ?_
    split
    · exact PU.pure_ _
    · exact PU.stuck_ _
  · refine PU.bind_ (PU.sizeOf _) fun _ => ?_
    split
    · exact PU.pure_ _
    · exact PU.stuck_ _
  · exact PU.stuck_ _
theorem PU.fieldAt {s : TypeId} {n : Nat} {fs : Array Field} {f : Field} {i : TypeInfo} (hs : P.underlying s = some (.struct fs)) (hf : fs[n]? = some f) (hi : P.info? f.type = some i) (h0 : i.size ≠ 0) (x : Value) :
    PU P (Go.Instr.fieldAt s x n) := by
  have h : ∀ w, (Go.Instr.fieldAt s x n).run P w = ((Go.Instr.sureAddr x) >>= fun a => (pure (.pointer (some (a.add f.offset))) : Sem Value)).run P w := fun w => by
    simp [Go.Instr.fieldAt, run_underlying hs, hf, fieldPlace, Go.sizeOf, Go.typeInfo, hi, h0]
  have hp : PU P ((Go.Instr.sureAddr x) >>= fun a => (pure (.pointer (some (a.add f.offset))) : Sem Value)) := PU.bind_ (PU.sureAddr _) fun _ => PU.pure_ _
  intro w v w1 hr
  rw [h] at hr
  exact ⟨(hp w v w1 hr).1, fun w2 => by rw [h]; exact (hp w v w1 hr).2 w2⟩
theorem seen_none {w : World} {at_ : Addr} {u : TypeId} {k : Addr} {b : Bool} (h : w.heap[at_.block]? = none) : ∀ q, w.seen P at_ u k b ≠ .ok q := by
  intro q hq
  unfold World.seen at hq
  simp only [h, bind, Except.bind, pure, Except.pure, throw, throwThe, MonadExcept.throw, MonadExceptOf.throw] at hq
  repeat' (split at hq <;> try contradiction)
theorem RO.load (a : Addr) : RO P (Go.load a) := by
  intro w v w1 h
  unfold Go.load at h ⊢
  simp only [Sem.run] at h ⊢
  cases hc : w.cell? a with
  | some u =>
    rw [hc] at h
    simp only [Result.ok.injEq] at h
    refine ⟨h.2.symm, fun w2 hx => ?_⟩
    have : w2.cell? a = some u := by
      rw [← hc]
      unfold World.cell?
      rw [hx a.block (World.block_lt_of_cell? w a hc)]
    rw [this, h.1]
  | none =>
    rw [hc] at h
    simp only at h
    cases hf : w.farLoad P a (Mode.plain == .atomic) with
    | error e => rw [hf] at h; simp at h
    | ok r =>
      obtain ⟨u, l⟩ := r
      rw [hf] at h
      simp only [Result.ok.injEq] at h
      refine ⟨h.2.symm, fun w2 hx => ?_⟩
      unfold World.farLoad at hf
      cases hb : w.heap[a.block]? with
      | none => rw [hb] at hf; simp at hf
      | some o =>
        rw [hb] at hf
        have hlt : a.block < w.heap.size := (Array.getElem?_eq_some_iff.1 hb).1
        cases o with
        | view at_ ty =>
          simp only at hf
          have hseen : ∀ r, w.viewLoad P at_ ty a (Mode.plain == .atomic) = .ok r → w2.viewLoad P at_ ty a (Mode.plain == .atomic) = .ok r := by
            intro r hr
            cases hb2 : w.heap[at_.block]? with
            | none =>
              exfalso
              unfold World.viewLoad at hr
              cases hq : w.seen P at_ ty a (Mode.plain == .atomic) with
              | error e => simp [hq, bind, Except.bind] at hr
              | ok q => exact seen_none hb2 q hq
            | some o2 =>
              have hlt2 : at_.block < w.heap.size := (Array.getElem?_eq_some_iff.1 hb2).1
              unfold World.viewLoad World.seen at hr ⊢
              rw [hx _ hlt2]
              exact hr
          have hc2 : w2.cell? a = none := by
            unfold World.cell?
            rw [hx _ hlt, hb]
          rw [hc2]
          simp only
          unfold World.farLoad
          rw [hx _ hlt, hb]
          simp only
          cases hv : w.viewLoad P at_ ty a (Mode.plain == .atomic) with
          | error e => rw [hv] at hf; simp at hf
          | ok r =>
            rw [hv] at hf
            simp only [Except.ok.injEq] at hf
            rw [hseen r hv, hf]
            simp only [h.1]
        | _ => simp at hf
theorem RO.loadCellsFrom (a : Addr) : ∀ (n i : Nat) (acc : Array Value), RO P (Go.loadCellsFrom a i n acc)
  | 0, i, acc => RO.pure_ _
  | n + 1, i, acc => RO.bind_ (RO.load _) fun v => RO.loadCellsFrom a n (i + 1) _
theorem RO.loadVar (t : TypeId) (a : Addr) : RO P (Go.loadVar t a) := by
  unfold Go.loadVar
  refine RO.bind_ (PU.isAgg t).ro fun b => ?_
  split
  · exact RO.bind_ (PU.sizeOf t).ro fun n => RO.bind_ (RO.loadCellsFrom a n 0 #[]) fun _ => RO.pure_ _
  · exact RO.load a
theorem RO.loadAt (t : TypeId) (x : Value) : RO P (Go.Instr.loadAt t x) := RO.bind_ (PU.sureAddr x).ro fun _ => RO.loadVar t _
theorem PU.asBool (v : Value) : PU P (Go.asBool v) := by
  unfold Go.asBool
  split
  · exact PU.pure_ _
  · exact PU.stuck_ _
theorem PU.congr_ {s s' : Sem α} (h : ∀ w, s.run P w = s'.run P w) (hp : PU P s') : PU P s := by
  intro w v w1 hr
  rw [h] at hr
  exact ⟨(hp w v w1 hr).1, fun w2 => by rw [h]; exact (hp w v w1 hr).2 w2⟩
end
end Go.Proofs.Cab

/- A region whose order is open comes to what one fixed order of its operations comes to (second part). -/
set_option linter.unusedVariables false
set_option linter.unusedSimpArgs false
namespace Go.Proofs.Cab

/-! ### operations by what they do: 0 reckons, 1 reads, 2 lays a new block, 3 whatever else -/
def opKind : Op → Nat
  | .move _ | .assign _ | .pick _ _ _ | .extract _ _ | .fieldAddr _ _ _ | .field _ _ _ | .indexAddr _ _ _ | .index _ _ _ | .slice _ _ _ _ _ | .nilCheck _ | .binOp _ _ _ _ _ | .unOp _ _ _
  | .build _ _ => 0
  | .convert _ d _ => if d == 9 then 1 else 0
  | .call { callee := .builtin .len, .. } => 0
  | .call { callee := .builtin .cap, .. } => 0
  | .load _ _ => 1
  | .alloc _ | .box _ _ | .buildSlice _ _ _ => 2
  | _ => 3
def isInt (P : Program) (t : TypeId) : Bool := match P.underlying t with | some (.int _) => true | _ => false
def isBytes (P : Program) (t : TypeId) : Bool := match P.underlying t with | some (.slice e) => (match P.underlying e with | some (.int .u8) => true | _ => false) | _ => false
def isString (P : Program) (t : TypeId) : Bool := match P.underlying t with | some .string => true | _ => false
def opOk (P : Program) : Op → Bool
  | .fieldAddr s _ n => match P.underlying s with
    | some (.struct fs) => match fs[n]? with
      | some f => match P.info? f.type with
        | some i => i.size != 0
        | none => false
      | none => false
    | _ => false
  | .convert s d _ => (isInt P s && isInt P d && d != 9) || (d == 9 && isBytes P s && isString P d)
  | _ => true
/-- Whether an operation asks anything of its operands. -/
def needDyn : Op → Bool
  | .nilCheck _ | .binOp _ _ _ _ _ | .convert _ _ _ => true
  | .call { callee := .builtin .len, .. } => true
  | .call { callee := .builtin .cap, .. } => true
  | _ => false
def opDyn (ρ : Operand → Value) : Op → Bool
  | .nilCheck x => match ρ x with
    | .pointer _ => true
    | .func (.func _) _ _ => true
    | _ => false
  | .binOp _ _ x y _ => match ρ x, ρ y with
    | .int _ _, .int _ _ => true
    | .string _, .string _ => true
    | .bool _, .bool _ => true
    | _, _ => false
  | .convert _ d x => d == 9 || match ρ x with
    | .int _ _ => true
    | _ => false
  | .call { callee := .builtin .len, args, .. } => match args.toList with
    | [x] => match ρ x with
      | .slice _ _ _ => true
      | .string _ => true
      | _ => false
    | _ => false
  | .call { callee := .builtin .cap, args, .. } => match args.toList with
    | [x] => match ρ x with
      | .slice _ _ _ => true
      | _ => false
    | _ => false
  | _ => true
section
variable {P : Program}
theorem PU.op {ρ : Operand → Value} {o : Oper} (hk : opKind o.op = 0) (hs : opOk P o.op = true) (hd : opDyn ρ o.op = true) : PU P (execOp ρ o) := by
  obtain ⟨dst, op, type, pos, after, guard⟩ := o
  cases op <;> simp only [opKind, reduceCtorEq] at hk <;> simp only [execOp]
  case move x => exact PU.pure_ _
  case assign x => exact PU.pure_ _
  case pick c x y =>
    refine PU.bind_ (PU.asBool _) fun b => ?_
    split <;> exact PU.pure_ _
  case build t ps => exact PU.bind_ (PU.build _ _) fun _ => PU.pure_ _
  case nilCheck x =>
    simp only [opDyn] at hd
    split at hd
    · rename_i p hp
      rw [hp]
      cases p with
      | none => exact (No.runtimePanic _).pu
      | some a => exact PU.pure_ _
    · rename_i f a b hp
      rw [hp]
      exact PU.pure_ _
    · cases hd
  case binOp op t x y yt =>
    simp only [opDyn] at hd
    split at hd
    · rename_i hx hy
      rw [hx, hy]
      exact PU.bind_ (PU.bind_ (PU.eqGuardInt _ _ _ _ _ _ _ _) fun _ => PU.binInt _ _ _ _ _ _) fun _ => PU.pure_ _
    · rename_i hx hy
      rw [hx, hy]
      exact PU.bind_ (PU.bind_ (PU.eqGuardStr _ _ _ _ _ _) fun _ => PU.binStr _ _ _ _) fun _ => PU.pure_ _
    · rename_i hx hy
      rw [hx, hy]
      exact PU.bind_ (PU.bind_ (PU.eqGuardBool _ _ _ _ _ _) fun _ => PU.binBool _ _ _ _) fun _ => PU.pure_ _
    · cases hd
  case unOp op t x => exact PU.bind_ (PU.unary _ _) fun _ => PU.pure_ _
  case convert s d x =>
    have hd9 : ¬ d = 9 := fun e => by
      subst e
      simp [opKind] at hk
    have hb : (d == 9) = false := by simpa using hd9
    simp only [opDyn, hb, Bool.false_or] at hd
    simp only [opOk, hb, Bool.false_and, Bool.or_false, Bool.and_eq_true] at hs
    split at hd
    · rename_i hx
      rw [hx]
      have h1 : ∀ t, isInt P t = true → ∃ k, P.underlying t = some (.int k) := fun t ht => by
        unfold isInt at ht
        split at ht
        · rename_i k hk
          exact ⟨k, hk⟩
        · cases ht
      exact PU.bind_ (PU.convInt _ _ _ _ (h1 _ hs.1.1) (h1 _ hs.1.2)) fun _ => PU.pure_ _
    · cases hd
  case slice t x lo hi mx => exact PU.bind_ (PU.sliceAt _ _ _ _ _) fun _ => PU.pure_ _
  case fieldAddr s x n =>
    simp only [opOk] at hs
    split at hs
    · rename_i fs hfs
      split at hs
      · rename_i f hf
        split at hs
        · rename_i i hi
          exact PU.bind_ (PU.fieldAt hfs hf hi (by simpa using hs) _) fun _ => PU.pure_ _
        · cases hs
      · cases hs
    · cases hs
  case field t x n => exact PU.bind_ (PU.field _ _ _) fun _ => PU.pure_ _
  case indexAddr t x i => exact PU.bind_ (PU.indexAt _ _ _) fun _ => PU.pure_ _
  case index t x i => exact PU.bind_ (PU.index _ _ _) fun _ => PU.pure_ _
  case extract x n => exact PU.bind_ (PU.extract _ _) fun _ => PU.pure_ _
  case call c =>
    obtain ⟨callee, args, argTypes⟩ := c
    cases callee with
    | builtin b =>
      cases b <;> simp only [opKind, reduceCtorEq] at hk
      case len =>
        simp only [opDyn] at hd
        split at hd
        · rename_i x hx
          obtain rfl : args = #[x] := by rw [← Array.toArray_toList (xs := args), hx]
          have h : ∀ (v : Value) (w : World), (execOp ρ { dst := dst, op := .call { callee := .builtin .len, args := #[x], argTypes := argTypes }, type := type, pos := pos, after := after, guard := guard }).run P w =
              (Builtin.len_ argTypes type #[ρ x] >>= fun v => (pure (.value v) : Sem Next)).run P w := fun v w => by
            simp [execOp, resolve, invoke, builtin]
          refine PU.congr_ (h undef) (PU.bind_ ?_ fun _ => PU.pure_ _)
          split at hd
          · rename_i hv
            rw [hv]
            exact PU.lenSlice _ _ _ _ _
          · rename_i hv
            rw [hv]
            exact PU.lenString _ _ _
          · cases hd
        · cases hd
      case cap =>
        simp only [opDyn] at hd
        split at hd
        · rename_i x hx
          obtain rfl : args = #[x] := by rw [← Array.toArray_toList (xs := args), hx]
          have h : ∀ (v : Value) (w : World), (execOp ρ { dst := dst, op := .call { callee := .builtin .cap, args := #[x], argTypes := argTypes }, type := type, pos := pos, after := after, guard := guard }).run P w =
              (Builtin.cap_ argTypes type #[ρ x] >>= fun v => (pure (.value v) : Sem Next)).run P w := fun v w => by
            simp [execOp, resolve, invoke, builtin]
          refine PU.congr_ (h undef) (PU.bind_ ?_ fun _ => PU.pure_ _)
          split at hd
          · rename_i hv
            rw [hv]
            exact PU.capSlice _ _ _ _ _
          · cases hd
        · cases hd
    | value f => simp [opKind] at hk
    | invoke r m => simp [opKind] at hk
theorem bytes_of {t : TypeId} (h : isBytes P t = true) : ∃ e, P.underlying t = some (.slice e) ∧ P.underlying e = some (.int .u8) := by
  unfold isBytes at h
  split at h
  · rename_i e he
    split at h
    · rename_i h2
      exact ⟨e, he, h2⟩
    · cases h
  · cases h
theorem string_of {t : TypeId} (h : isString P t = true) : P.underlying t = some .string := by
  unfold isString at h
  split at h
  · rename_i he
    exact he
  · cases h
theorem PU.forIn_ {β γ : Type} {f : γ → β → Sem (ForInStep β)} (hf : ∀ a b, PU P (f a b)) : ∀ (l : List γ) (b : β), PU P (forIn l b f)
  | [], b => by rw [List.forIn_nil]; exact PU.pure_ _
  | a :: l, b => by
    rw [List.forIn_cons]
    refine PU.bind_ (hf a b) fun r => ?_
    cases r with
    | done b => exact PU.pure_ _
    | yield b => exact PU.forIn_ hf l b
theorem RO.bytesToString (x : Value) : RO P (Go.Conv.bytesToString x) := by
  unfold Go.Conv.bytesToString
  split
  · exact RO.pure_ _
  · refine RO.bind_ (RO.loadCellsFrom _ _ 0 #[]) fun cs => ?_
    refine RO.bind_ (PU.ro ?_) fun _ => RO.pure_ _
    rw [← Array.forIn_toList]
    refine PU.forIn_ (fun a b => ?_) _ _
    split
    · exact PU.pure_ _
    · exact PU.bind_ (PU.stuck_ _) fun _ => PU.pure_ _
  · exact (PU.stuck_ _).ro
def convStr (x : Value) : Sem Value := match x with
  | .int _ n => Conv.intToString n
  | .string s => pure (.string s)
  | x => Conv.bytesToString x
theorem RO.convStr_ (x : Value) : RO P (convStr x) := by
  unfold convStr
  split
  · exact RO.pure_ _
  · exact RO.pure_ _
  · exact RO.bytesToString _
theorem RO.convBytes {s d e : TypeId} (hs : P.underlying s = some (.slice e)) (he : P.underlying e = some (.int .u8)) (hd : P.underlying d = some .string) (x : Value) : RO P (Go.convert s d x) := by
  have key : ∀ w, (Go.convert s d x).run P w = (convStr x).run P w := fun w => by
    unfold Go.convert convStr
    cases x <;> simp [run_underlying hs, run_underlying hd, run_underlying he, Result.andThen]
  intro w v w1 hr
  rw [key] at hr
  exact ⟨(RO.convStr_ x w v w1 hr).1, fun w2 hx => by rw [key]; exact (RO.convStr_ x w v w1 hr).2 w2 hx⟩
theorem RO.op {ρ : Operand → Value} {o : Oper} (hk : opKind o.op = 1) (hs : opOk P o.op = true) : RO P (execOp ρ o) := by
  obtain ⟨dst, op, type, pos, after, guard⟩ := o
  cases op <;> simp only [opKind, reduceCtorEq, Nat.reduceEqDiff] at hk <;> simp only [execOp]
  case load t x => exact RO.bind_ (RO.loadAt _ _) fun _ => RO.pure_ _
  case convert s d x =>
    have hd9 : d = 9 := by
      by_cases h : d = 9
      · exact h
      · simp [h] at hk
    subst hd9
    simp only [opOk, beq_self_eq_true, bne_self_eq_false, Bool.and_false, Bool.false_or, Bool.true_and, Bool.and_eq_true] at hs
    obtain ⟨e, h1, h2⟩ := bytes_of hs.1
    exact RO.bind_ (RO.convBytes h1 h2 (string_of hs.2) _) fun _ => RO.pure_ _
  case call c =>
    obtain ⟨callee, args, argTypes⟩ := c
    cases callee with
    | builtin b => cases b <;> simp [opKind] at hk
    | value f => simp [opKind] at hk
    | invoke r m => simp [opKind] at hk
/-- The heap may have grown. -/
def GR (P : Program) {α : Type} (s : Sem α) : Prop := ∀ w v w1, s.run P w = .ok v w1 → Ext w w1
theorem GR.of_pu {α : Type} {s : Sem α} (h : PU P s) : GR P s := fun w v w1 hr => by rw [(h w v w1 hr).1]; exact Ext.refl w
theorem Ext.trans {a b c : World} (h : Ext a b) (hs : a.heap.size ≤ b.heap.size) (k : Ext b c) : Ext a c := fun i hi => (k i (Nat.lt_of_lt_of_le hi hs)).trans (h i hi)
theorem GR.new (o : Obj) : ∀ w v w1, (Go.newObj o).run P w = .ok v w1 → Ext w w1 := by
  intro w v w1 h
  unfold Go.newObj at h
  simp only [Sem.run, Result.ok.injEq] at h
  rw [← h.2]
  intro k hk
  simp only [Array.getElem?_push]
  rw [if_neg (by omega)]
theorem GR.bind1 {α β : Type} {s : Sem α} {f : α → Sem β} (hs : PU P s) (hf : ∀ a, GR P (f a)) : GR P (s >>= f) := by
  intro w v w1 h
  rw [Sem.run_bind] at h
  cases hr : s.run P w with
  | halt x w' => rw [hr] at h; simp [Result.andThen] at h
  | ok a w' =>
    rw [hr] at h
    obtain ⟨rfl, h2⟩ := hs w a w' hr
    exact hf a _ v w1 h
theorem GR.bind2 {α β : Type} {s : Sem α} {f : α → Sem β} (hs : GR P s) (hf : ∀ a, PU P (f a)) : GR P (s >>= f) := by
  intro w v w1 h
  rw [Sem.run_bind] at h
  cases hr : s.run P w with
  | halt x w' => rw [hr] at h; simp [Result.andThen] at h
  | ok a w' =>
    rw [hr] at h
    have e := (hf a w' v w1 h).1
    rw [e]
    exact hs w a w' hr
theorem GR.newRow (e : TypeId) (cs : Array Value) : GR P (Go.newRow e cs) := GR.bind2 (GR.new _) fun _ => PU.pure_ _
theorem GR.op {ρ : Operand → Value} {o : Oper} (hk : opKind o.op = 2) : GR P (execOp ρ o) := by
  obtain ⟨dst, op, type, pos, after, guard⟩ := o
  cases op <;> simp only [opKind, reduceCtorEq, Nat.reduceEqDiff] at hk <;> simp only [execOp]
  case convert s d x => split at hk <;> cases hk
  case alloc t =>
    refine GR.bind2 ?_ fun _ => PU.pure_ _
    unfold Go.Instr.alloc
    refine GR.bind1 (PU.zeroValue t) fun z => ?_
    exact GR.bind2 (GR.newRow _ _) fun _ => PU.pure_ _
  case box t x => exact GR.bind2 (GR.bind2 (GR.newRow _ _) fun _ => PU.pure_ _) fun _ => PU.pure_ _
  case buildSlice t n ps =>
    refine GR.bind2 ?_ fun _ => PU.pure_ _
    unfold Go.Instr.buildSlice
    refine GR.bind1 (PU.underlying _) fun d => ?_
    split
    · refine GR.bind1 (PU.sizeOf _) fun sz => ?_
      have rest : ∀ (e : TypeId) (sz : Nat) (z : Array Value), GR P (do
          let some cells := Go.Instr.fill (fun i => some (i * sz, sz)) ((Array.range (n * sz)).map (z[· % z.size]!)) (ps.map fun (i, x) => (i, ρ x)).toList
            | Go.stuck "buildSlice: a part of the wrong size"
          pure (.slice (some (← Go.newRow e cells)) n n) : Sem Value) := fun e sz z => by
        split
        · exact GR.bind2 (GR.newRow _ _) fun _ => PU.pure_ _
        · exact GR.of_pu (PU.stuck_ _)
      dsimp only
      split
      · intro w v w1 h
        rw [Sem.run_bind] at h
        simp [Go.unsupported, Sem.run, Result.andThen] at h
      · split
        · exact GR.bind1 (PU.pure_ _) fun _ => rest _ _ _
        · exact GR.bind1 (PU.zeroValue _) fun _ => GR.bind1 (PU.pure_ _) fun _ => rest _ _ _
    · exact GR.of_pu (PU.stuck_ _)
  case call c =>
    obtain ⟨callee, args, argTypes⟩ := c
    cases callee with
    | builtin b => cases b <;> simp [opKind] at hk
    | value f => simp [opKind] at hk
    | invoke r m => simp [opKind] at hk
end
end Go.Proofs.Cab

/- A region whose order is open comes to what one fixed order of its operations comes to (third part: the theorem). -/
set_option linter.unusedVariables false
set_option linter.unusedSimpArgs false
namespace Go.Proofs.Cab

/-! ### the fixed look at a region -/
def waitsF (ops : Array Oper) : Nat → Nat → Nat → Bool
  | 0, _, _ => false
  | f + 1, y, x => match ops[y]? with
    | some o => o.after.toList.any fun e => Region.binds .any e && (e.on == x || waitsF ops f e.on x)
    | none => false
def kindAt (ops : Array Oper) (i : Nat) : Nat := match ops[i]? with
  | some o => opKind o.op
  | none => 3
/-- Operation y, which may come up before x does, may change places with it: x stands before y in the fixed order. -/
def swapOk (fl : Nat → Bool) (ops : Array Oper) (x y : Nat) : Bool := match ops[x]?, ops[y]? with
  | some ox, some oy => ox.apart ops oy && (opKind ox.op == 0 || opKind oy.op == 0 || (opKind ox.op == 1 && opKind oy.op == 1) || (opKind ox.op == 1 && opKind oy.op == 2) || (opKind ox.op == 1 && fl y))
  | _, _ => false
def pairB (R : Nat → Nat → Bool) : List Nat → Bool
  | [] => true
  | x :: l => l.all (R x) && pairB R l
def waitsNot (ops : Array Oper) (x y : Nat) : Bool := match ops[x]? with
  | some o => o.after.toList.all fun e => !Region.binds .any e || e.on != y
  | none => false
/-- No later operation writes what an operation looks at. -/
def lateOk (ops : Array Oper) : List Nat → Bool
  | [] => true
  | i :: rest => (match ops[i]? with
    | some o => !needDyn o.op || (i :: rest).all fun k => match ops[k]? with
        | some ok => match ok.dst with
          | some d => !(o.looksAt ops).contains d
          | none => true
        | none => true
    | none => false) && lateOk ops rest
def canonB (fl : Nat → Bool) (P : Program) (ops : Array Oper) (ord : List Nat) : Bool :=
  Region.noSelect ops && (List.range ops.size).all (fun k => ord.contains k) && ord.all (fun k => decide (k < ops.size)) && pairB (fun x y => x != y) ord &&
  ops.all (fun o => (!decide (opKind o.op ≤ 1) || opOk P o.op) && o.after.toList.all fun e => !Region.binds .any e || decide (e.on < ops.size)) &&
  ord.all (fun x => waitsNot ops x x) && pairB (fun x y => waitsNot ops x y) ord && pairB (fun x y => swapOk fl ops x y || waitsF ops ops.size y x) ord && lateOk ops ord
/-- Each reckoning has operands that it takes as they are. -/
def dynAll (ops : Array Oper) (a : Act) : Bool :=
  ops.toList.all fun o => !needDyn o.op || !Region.wanted o (yielded ops a.tmps) || opDyn a.eval o.op

theorem pairB_iff {R : Nat → Nat → Bool} : ∀ {l : List Nat}, pairB R l = true ↔ l.Pairwise (fun x y => R x y = true)
  | [] => by simp [pairB]
  | x :: l => by simp [pairB, List.pairwise_cons, pairB_iff (l := l)]

section
variable {P : Program} {ops : Array Oper} {Q : Exit → Act → World → Prop}

/-- At operation i the operands are such as a reckoning takes. -/
def dynAt (ops : Array Oper) (i : Nat) (a : Act) : Prop := ∀ o, ops[i]? = some o → Region.wanted o (yielded ops a.tmps) = true → opKind o.op = 0 → opDyn a.eval o.op = true
/-- The operations in a fixed order. -/
def wpC (fl : Nat → Bool) (P : Program) (ops : Array Oper) (Q : Exit → Act → World → Prop) : List Nat → Act → World → Prop
  | [], a, w => Q .normal a w
  | i :: rest, a, w => dynAt ops i a ∧ wpOp P ops Q i (fun a' w' => (fl i = true → Ext w w') ∧ wpC fl P ops Q rest a' w') a w
/-- The same without a word on the operands. -/
def wpF (fl : Nat → Bool) (P : Program) (ops : Array Oper) (Q : Exit → Act → World → Prop) : List Nat → Act → World → Prop
  | [], a, w => Q .normal a w
  | i :: rest, a, w => wpOp P ops Q i (fun a' w' => (fl i = true → Ext w w') ∧ wpF fl P ops Q rest a' w') a w

theorem opDyn_congr {ρ ρ' : Operand → Value} {op : Op} (h : ∀ x ∈ op.operands, ρ x = ρ' x) : opDyn ρ op = opDyn ρ' op := by
  cases op <;> simp only [opDyn]
  case nilCheck x => rw [h x (by simp [Op.operands])]
  case binOp b t x y yt => rw [h x (by simp [Op.operands]), h y (by simp [Op.operands])]
  case convert s d x => rw [h x (by simp [Op.operands])]
  case call c =>
    obtain ⟨callee, args, argTypes⟩ := c
    cases callee with
    | builtin b =>
      cases b <;> try rfl
      all_goals
        simp only [opDyn]
        split
        · rename_i x hx
          have : x ∈ args := by rw [← Array.mem_toList_iff, hx]; simp
          rw [h x (by simp [Op.operands, Call.operands, this])]
        · rfl
    | value f => rfl
    | invoke r m => rfl

theorem dynAt_put {i j : Nat} {oi oj : Oper} (hi : ops[i]? = some oi) (hj : ops[j]? = some oj) (hap : ∀ d, oi.dst = some d → d ∉ oj.looksAt ops) (a : Act) (v : Value) :
    dynAt ops j (a.put oi.dst v) ↔ dynAt ops j a := by
  have hw := wanted_put (ops := ops) oj a oi.dst v hap
  have he : opDyn (a.put oi.dst v).eval oj.op = opDyn a.eval oj.op := opDyn_congr fun x hx => Act.eval_put fun d hd hxd => hap d hd (by
    subst hxd
    exact List.mem_append_left _ (List.mem_filterMap.2 ⟨.tmp d, by simpa using hx, rfl⟩))
  constructor
  · intro h o ho hwo hk
    obtain rfl : oj = o := by rw [hj] at ho; exact Option.some.inj ho
    rw [← he]
    exact h oj ho (by rw [hw]; exact hwo) hk
  · intro h o ho hwo hk
    obtain rfl : oj = o := by rw [hj] at ho; exact Option.some.inj ho
    rw [he]
    exact h oj ho (by rw [← hw]; exact hwo) hk

/-- What a quiet operation does: it yields one value in every world that has grown (in every world, if it only reckons), or it isn't carried out. -/
theorem quiet_step {i : Nat} {o : Oper} {a : Act} {w : World} {K : Act → World → Prop} (hi : ops[i]? = some o) (hk : opKind o.op ≤ 1) (hok : opKind o.op ≤ 1 → opOk P o.op = true)
    (hd : dynAt ops i a) (hnp : ∀ c a w, ¬ Q (.panic c) a w) (hno : ∀ a w, ¬ Q .outgrown a w) (h : wpOp P ops Q i K a w) :
    ∃ v, K (a.put o.dst v) w ∧ ((Region.wanted o (yielded ops a.tmps) = false ∧ v = undef) ∨
      (Region.wanted o (yielded ops a.tmps) = true ∧ (∀ w2, Ext w w2 → (execOp a.eval o).run P w2 = .ok (.value v) w2) ∧ (opKind o.op = 0 → ∀ w2, (execOp a.eval o).run P w2 = .ok (.value v) w2))) := by
  unfold wpOp at h
  simp only [hi] at h
  split at h
  · rename_i hw
    rcases h with h | ⟨_, a0, w0, hq⟩
    case inr => exact absurd hq (hno _ _)
    unfold Oper.wp at h
    have hval : ∀ n w', (execOp a.eval o).run P w = .ok n w' → ∃ v, n = .value v := by
      intro n w' hr
      obtain ⟨dst, op, type, pos, after, guard⟩ := o
      have key : ∀ (s : Sem Value), (s >>= fun v => (pure (.value v) : Sem Next)).run P w = .ok n w' → ∃ v, n = .value v := by
        intro s hs
        rw [Sem.run_bind] at hs
        cases hr : s.run P w with
        | halt x w'' => rw [hr] at hs; simp [Result.andThen] at hs
        | ok u w'' =>
          rw [hr] at hs
          simp only [Result.andThen, Sem.run_pure, Result.ok.injEq] at hs
          exact ⟨u, hs.1.symm⟩
      cases op <;> try (exfalso; revert hk; simp [opKind]; done)
      all_goals simp only [execOp] at hr
      case move x => simp only [Sem.run_pure, Result.ok.injEq] at hr; exact ⟨_, hr.1.symm⟩
      case assign x => simp only [Sem.run_pure, Result.ok.injEq] at hr; exact ⟨_, hr.1.symm⟩
      case pick c x y =>
        rw [Sem.run_bind] at hr
        cases hb : (asBool (a.eval c)).run P w with
        | halt x w'' => rw [hb] at hr; simp [Result.andThen] at hr
        | ok u w'' =>
          rw [hb] at hr
          simp only [Result.andThen] at hr
          split at hr <;> (simp only [Sem.run_pure, Result.ok.injEq] at hr; exact ⟨_, hr.1.symm⟩)
      case nilCheck x =>
        have hd' := hd _ hi hw rfl
        simp only [opDyn] at hd'
        split at hd'
        · rename_i p hp
          rw [hp] at hr
          cases p with
          | none => exact absurd hr (No.runtimePanic _ _ _ _)
          | some a => simp only [Sem.run_pure, Result.ok.injEq] at hr; exact ⟨_, hr.1.symm⟩
        · rename_i f p q hp
          rw [hp] at hr
          simp only [Sem.run_pure, Result.ok.injEq] at hr
          exact ⟨_, hr.1.symm⟩
        · cases hd'
      case call c =>
        obtain ⟨callee, args, argTypes⟩ := c
        cases callee with
        | builtin b =>
          cases b <;> try (exfalso; revert hk; simp [opKind]; done)
          all_goals
            simp only [resolve, Sem.run_bind, Sem.run_pure, Result.andThen_ok, invoke, builtin] at hr
            exact key _ (by rw [Sem.run_bind]; exact hr)
        | value f => simp [opKind] at hk
        | invoke r m => simp [opKind] at hk
      all_goals exact key _ hr
    cases hr : (execOp a.eval o).run P w with
    | halt x w' =>
      rw [hr] at h
      cases x <;> simp only [Oper.upon] at h
      exact absurd h (hnp _ _ _)
    | ok n w' =>
      obtain ⟨v, rfl⟩ := hval n w' hr
      rw [hr] at h
      simp only [Oper.upon] at h
      by_cases hk0 : opKind o.op = 0
      · have hp := PU.op (P := P) (ρ := a.eval) hk0 (hok (by omega)) (hd o hi hw hk0) w _ _ hr
        rw [hp.1] at h
        exact ⟨v, h, .inr ⟨hw, fun w2 _ => hp.2 w2, fun _ => hp.2⟩⟩
      · have hp := RO.op (P := P) (ρ := a.eval) (o := o) (by omega) (hok hk) w _ _ hr
        rw [hp.1] at h
        exact ⟨v, h, .inr ⟨hw, hp.2, fun e => absurd e hk0⟩⟩
  · rename_i hw
    exact ⟨undef, h, .inl ⟨by simpa using hw, rfl⟩⟩
end
end Go.Proofs.Cab

/- A region whose order is open comes to what one fixed order of its operations comes to (fourth part: two operations change places). -/
set_option linter.unusedVariables false
set_option linter.unusedSimpArgs false
namespace Go.Proofs.Cab
section
variable {P : Program} {ops : Array Oper} {Q : Exit → Act → World → Prop}

/-- What an operation leaves of the temporaries. -/
theorem wpOp_act {j : Nat} {oj : Oper} {K : Act → World → Prop} {a : Act} {w : World} (hj : ops[j]? = some oj) (h : wpOp P ops Q j K a w) :
    wpOp P ops Q j (fun a' w' => (∃ u d, a' = ({ a with defers := d } : Act).put oj.dst u) ∧ K a' w') a w := by
  unfold wpOp at *
  simp only [hj] at *
  split
  · rename_i hw
    simp only [hw, if_true] at h
    rcases h with h | h
    case inr => exact .inr h
    refine .inl ?_
    unfold Oper.wp at *
    generalize (execOp a.eval oj).run P w = r at *
    cases r with
    | ok n w' =>
      cases n <;> simp only [Oper.upon] at h ⊢
      case value u => exact ⟨⟨u, a.defers, rfl⟩, h⟩
      case skip => exact ⟨⟨undef, a.defers, rfl⟩, h⟩
      case defer d => exact ⟨⟨undef, d :: a.defers, rfl⟩, h⟩
      case enter f args =>
        refine Calls.mono h fun e w'' he => ?_
        cases e with
        | returned u => exact ⟨⟨u, a.defers, rfl⟩, he⟩
        | panicked c => exact he
        | outgrown => exact he
      case row row args => exact Rows.mono h fun u w'' he => ⟨⟨u, a.defers, rfl⟩, he⟩
    | halt x w' => cases x <;> simp only [Oper.upon] at h ⊢ <;> exact h
  · rename_i hw
    simp only [hw] at h
    exact ⟨⟨undef, a.defers, rfl⟩, h⟩

/-- It comes somewhere. -/
theorem wpOp_some {j : Nat} {oj : Oper} {K : Act → World → Prop} {a : Act} {w : World} (hj : ops[j]? = some oj) (hnp : ∀ c a w, ¬ Q (.panic c) a w) (hno : ∀ a w, ¬ Q .outgrown a w) (h : wpOp P ops Q j K a w) :
    ∃ a' w', K a' w' := by
  unfold wpOp at *
  simp only [hj] at *
  split at h
  · rcases h with h | ⟨_, a0, w0, hq⟩
    case inr => exact absurd hq (hno _ _)
    unfold Oper.wp at *
    generalize (execOp a.eval oj).run P w = r at *
    cases r with
    | ok n w' =>
      cases n <;> simp only [Oper.upon] at h
      case value u => exact ⟨_, _, h⟩
      case skip => exact ⟨_, _, h⟩
      case defer d => exact ⟨_, _, h⟩
      case enter f args =>
        obtain ⟨e, w'', fr, hR, _⟩ := h []
        cases e with
        | returned u => exact ⟨_, _, hR⟩
        | panicked c => exact absurd hR (hnp _ _ _)
        | outgrown =>
          obtain ⟨a0, w0, hq⟩ := hR
          exact absurd hq (hno _ _)
      case row row args =>
        obtain ⟨v, w'', hR, _⟩ := h default []
        exact ⟨_, _, hR⟩
    | halt x w' =>
      cases x <;> simp only [Oper.upon] at h
      exact absurd h (hnp _ _ _)
  · exact ⟨_, _, h⟩

/-- A value put into a temporary that an operation neither looks at nor writes may as well be put behind it. -/
theorem wpOp_shift {j : Nat} {oj : Oper} {dst : Option Tmp} {v : Value} (hj : ops[j]? = some oj) (hsj : ∀ cs b, oj.op ≠ .select cs b) (h1 : ∀ d, dst = some d → d ∉ oj.looksAt ops) (h2 : ∀ d, dst = some d → oj.dst ≠ some d)
    (hnp : ∀ c a w, ¬ Q (.panic c) a w) {K : Act → World → Prop} {a : Act} {w : World}
    (h : wpOp P ops Q j (fun a' w' => K (a'.put dst v) w') a w) : wpOp P ops Q j K (a.put dst v) w := by
  unfold wpOp at *
  simp only [hj] at *
  rw [wanted_put oj a dst v h1]
  split
  · rename_i hw
    simp only [hw, if_true] at h
    rcases h with h | ⟨hasks, hlets⟩
    case inr => exact .inr ⟨by unfold Oper.asks at *; rw [execOp_put oj hsj a dst v h1]; exact hasks, hlets⟩
    refine .inl ?_
    unfold Oper.wp at *
    rw [execOp_put oj hsj a dst v h1]
    generalize (execOp a.eval oj).run P w = r at *
    cases r with
    | ok n w' =>
      cases n <;> simp only [Oper.upon] at h ⊢
      case value u => rw [Act.put_comm a v u h2]; exact h
      case skip => rw [Act.put_comm a v undef h2]; exact h
      case defer d =>
        rw [Act.put_defers, Act.put_comm _ v undef h2]
        exact h
      case enter f args =>
        refine Calls.mono h fun e w'' he => ?_
        cases e with
        | returned u => show K _ _; rw [Act.put_comm a v u h2]; exact he
        | panicked c => exact absurd he (hnp _ _ _)
        | outgrown => exact he
      case row row args => exact Rows.mono h fun u w'' he => by rw [Act.put_comm a v u h2]; exact he
    | halt x w' =>
      cases x <;> simp only [Oper.upon] at h ⊢
      case panic u => exact absurd h (hnp _ _ _)
  · rename_i hw
    simp only [hw] at h
    rw [Act.put_comm a v undef h2]
    exact h

theorem dynAt_defers {j : Nat} {a : Act} {d : List Deferred} : dynAt ops j ({ a with defers := d } : Act) ↔ dynAt ops j a := by
  have he : ({ a with defers := d } : Act).eval = a.eval := by funext x; cases x <;> rfl
  unfold dynAt
  rw [he]

/-- Behind an operation that reckons, reads or lays a block the heap has grown, if that. -/
theorem wpOp_ext {j : Nat} {oj : Oper} {K : Act → World → Prop} {a : Act} {w : World} (hj : ops[j]? = some oj) (hk : opKind oj.op ≤ 2) (hok : opKind oj.op ≤ 1 → opOk P oj.op = true) (hd : dynAt ops j a)
    (hnp : ∀ c a w, ¬ Q (.panic c) a w) (hno : ∀ a w, ¬ Q .outgrown a w) (h : wpOp P ops Q j K a w) : wpOp P ops Q j (fun a' w' => Ext w w' ∧ K a' w') a w := by
  by_cases hk1 : opKind oj.op ≤ 1
  · obtain ⟨v, hK, hy⟩ := quiet_step hj hk1 hok hd hnp hno h
    have hy' : YieldsIf P ops (Ext w) oj v a := by
      rcases hy with ⟨h1, h2⟩ | ⟨h1, h2, _⟩
      · exact .inr ⟨h1, h2⟩
      · exact .inl ⟨h1, h2⟩
    exact hy'.wpOp hj (Ext.refl w) ⟨Ext.refl w, hK⟩
  · have hk2 : opKind oj.op = 2 := by omega
    unfold wpOp at *
    simp only [hj] at *
    split
    · rename_i hw
      simp only [hw, if_true] at h
      refine h.imp (fun h => ?_) id
      unfold Oper.wp at *
      have hg := GR.op (P := P) (ρ := a.eval) hk2 w
      have hval : ∀ n w', (execOp a.eval oj).run P w = .ok n w' → ∃ v, n = .value v := by
        intro n w' hr
        clear h
        obtain ⟨dst, op, type, pos, after, guard⟩ := oj
        have key : ∀ (s : Sem Value), (s >>= fun v => (pure (.value v) : Sem Next)).run P w = .ok n w' → ∃ v, n = .value v := by
          intro s hs
          rw [Sem.run_bind] at hs
          cases hr : s.run P w with
          | halt x w'' => rw [hr] at hs; simp [Result.andThen] at hs
          | ok u w'' =>
            rw [hr] at hs
            simp only [Result.andThen, Sem.run_pure, Result.ok.injEq] at hs
            exact ⟨u, hs.1.symm⟩
        cases op <;> try (exfalso; revert hk2; simp [opKind]; done)
        all_goals simp only [execOp] at hr
        case call c =>
          obtain ⟨callee, args, argTypes⟩ := c
          cases callee with
          | builtin b => cases b <;> (exfalso; revert hk2; simp [opKind])
          | value f => simp [opKind] at hk2
          | invoke r m => simp [opKind] at hk2
        all_goals exact key _ hr
      cases hr : (execOp a.eval oj).run P w with
      | halt x w' =>
        rw [hr] at h
        cases x <;> simp only [Oper.upon] at h
        exact absurd h (hnp _ _ _)
      | ok n w' =>
        obtain ⟨v, rfl⟩ := hval n w' hr
        rw [hr] at h
        simp only [Oper.upon] at h ⊢
        exact ⟨hg _ _ hr, h⟩
    · rename_i hw
      simp only [hw] at h
      exact ⟨Ext.refl w, h⟩

theorem swap (fl : Nat → Bool) {x j : Nat} {ox oj : Oper} (hx : ops[x]? = some ox) (hj : ops[j]? = some oj) (hap : ox.apart ops oj = true)
    (hkind : opKind ox.op = 0 ∨ opKind oj.op = 0 ∨ (opKind ox.op = 1 ∧ opKind oj.op = 1) ∨ (opKind ox.op = 1 ∧ opKind oj.op = 2) ∨ (opKind ox.op = 1 ∧ fl j = true))
    (hokx : opKind ox.op ≤ 1 → opOk P ox.op = true) (hokj : opKind oj.op ≤ 1 → opOk P oj.op = true) (hsx : ∀ cs b, ox.op ≠ .select cs b) (hsj : ∀ cs b, oj.op ≠ .select cs b)
    (hnp : ∀ c a w, ¬ Q (.panic c) a w) (hno : ∀ a w, ¬ Q .outgrown a w) {K : Act → World → Prop} {a : Act} {w : World}
    (hd : dynAt ops x a) (h : wpOp P ops Q x (fun a' w' => (fl x = true → Ext w w') ∧ dynAt ops j a' ∧ wpOp P ops Q j (fun a2 w2 => (fl j = true → Ext w' w2) ∧ K a2 w2) a' w') a w) :
    dynAt ops j a ∧ wpOp P ops Q j (fun a' w' => (fl j = true → Ext w w') ∧ dynAt ops x a' ∧ wpOp P ops Q x (fun a2 w2 => (fl x = true → Ext w' w2) ∧ K a2 w2) a' w') a w := by
  obtain ⟨h1, h2, h3⟩ := Oper.apart_spec hap
  have h2' : ∀ d, oj.dst = some d → ox.dst ≠ some d := fun d e e' => h2 d e' e
  by_cases hkx : opKind ox.op ≤ 1
  · obtain ⟨v, ⟨_, hdj, hK⟩, hy⟩ := quiet_step hx hkx hokx hd hnp hno h
    have hdj' : dynAt ops j a := (dynAt_put hx hj h1 a v).1 hdj
    refine ⟨hdj', ?_⟩
    have fin : ∀ (S : World → Prop), YieldsIf P ops S ox v a → wpOp P ops Q j (fun a' w' => S w' ∧ (fl j = true → Ext w w') ∧ K a' w') (a.put ox.dst v) w →
        wpOp P ops Q j (fun a' w' => (fl j = true → Ext w w') ∧ dynAt ops x a' ∧ wpOp P ops Q x (fun a2 w2 => (fl x = true → Ext w' w2) ∧ K a2 w2) a' w') a w := by
      intro S hyS hKS
      have h4 := wpOp_putIf hj hap hsx hsj (fun c a w hq => absurd hq (hnp _ _ _)) hyS hKS
      refine wpOp_mono (fun a' w' h5 => ?_) (wpOp_act hj h4)
      obtain ⟨⟨u, d, rfl⟩, hy5, hS5, hf5, hK5⟩ := h5
      exact ⟨hf5, (dynAt_put hj hx h3 _ u).2 (dynAt_defers.2 hd), hy5.wpOp hx hS5 ⟨fun _ => Ext.refl _, hK5⟩⟩
    by_cases hk0 : opKind ox.op = 0
    · refine fin (fun _ => True) ?_ (wpOp_mono (fun _ _ h => ⟨trivial, h⟩) hK)
      rcases hy with ⟨e1, e2⟩ | ⟨e1, _, e3⟩
      · exact .inr ⟨e1, e2⟩
      · exact .inl ⟨e1, fun w2 _ => e3 hk0 w2⟩
    · refine fin (Ext w) ?_ ?_
      · rcases hy with ⟨e1, e2⟩ | ⟨e1, e2, _⟩
        · exact .inr ⟨e1, e2⟩
        · exact .inl ⟨e1, e2⟩
      · by_cases hfj : fl j = true
        · exact wpOp_mono (fun _ _ h => ⟨h.1 hfj, h⟩) hK
        · refine wpOp_ext hj ?_ hokj hdj hnp hno hK
          rcases hkind with h | h | h | h | h
          · omega
          · omega
          · omega
          · omega
          · exact absurd h.2 hfj
  · have hkj : opKind oj.op = 0 := by omega
    have hA := wpOp_act hx h
    obtain ⟨a', w', ⟨u, d, rfl⟩, _, hdj, hj'⟩ := wpOp_some hx hnp hno hA
    have hdj' : dynAt ops j a := dynAt_defers.1 ((dynAt_put hx hj h1 _ u).1 hdj)
    refine ⟨hdj', ?_⟩
    have heD : ∀ d, ({ a with defers := d } : Act).eval = a.eval := fun d => by funext x; cases x <;> rfl
    have tr : ∀ (u : Value) (d : List Deferred) (v : Value), Yields P ops oj v (({ a with defers := d } : Act).put ox.dst u) ↔ Yields P ops oj v a := by
      intro u d v
      have e1 := execOp_put (ops := ops) oj hsj ({ a with defers := d } : Act) ox.dst u h1
      have e2 := wanted_put (ops := ops) oj ({ a with defers := d } : Act) ox.dst u h1
      rw [heD] at e1
      constructor
      · intro hy; exact hy.of_same e1.symm e2.symm
      · intro hy; exact hy.of_same e1 e2
    obtain ⟨v, _, hy⟩ := quiet_step hj (by omega) hokj hdj hnp hno hj'
    have hyv : Yields P ops oj v a := (tr u d v).1 (by
      rcases hy with ⟨e1, e2⟩ | ⟨e1, _, e3⟩
      · exact .inr ⟨e1, e2⟩
      · exact .inl ⟨e1, e3 hkj⟩)
    refine hyv.wpOp hj ⟨fun _ => Ext.refl w, (dynAt_put hj hx h3 _ v).2 hd, wpOp_shift hx hsx h3 h2' hnp ?_⟩
    refine wpOp_mono (fun a' w' h5 => ?_) hA
    obtain ⟨⟨u5, d5, rfl⟩, hf5, hdj5, hj5⟩ := h5
    obtain ⟨v5, ⟨_, hK5⟩, hy5⟩ := quiet_step hj (by omega) hokj hdj5 hnp hno hj5
    have hyv5 : Yields P ops oj v5 a := (tr u5 d5 v5).1 (by
      rcases hy5 with ⟨e1, e2⟩ | ⟨e1, _, e3⟩
      · exact .inr ⟨e1, e2⟩
      · exact .inl ⟨e1, e3 hkj⟩)
    have hvv : v = v5 := by
      rcases hyv with ⟨e1, e2⟩ | ⟨e1, e2⟩ <;> rcases hyv5 with ⟨f1, f2⟩ | ⟨f1, f2⟩
      · have := (e2 w).symm.trans (f2 w)
        simp only [Result.ok.injEq, Next.value.injEq] at this
        exact this.1
      · rw [e1] at f1; cases f1
      · rw [e1] at f1; cases f1
      · rw [e2, f2]
    rw [hvv]
    exact ⟨hf5, hK5⟩
end
end Go.Proofs.Cab

/- A region whose order is open comes to what one fixed order of its operations comes to (fifth part: the theorem). -/
set_option linter.unusedVariables false
set_option linter.unusedSimpArgs false
namespace Go.Proofs.Cab
section
variable {P : Program} {ops : Array Oper} {Q : Exit → Act → World → Prop} {fl : Nat → Bool}

/-- What is left of a region, in the fixed order, beside what has come up. -/
structure Left (fl : Nat → Bool) (P : Program) (ops : Array Oper) (rem : List Nat) (listed : Array Bool) : Prop where
  size : listed.size = ops.size
  lt : ∀ k ∈ rem, k < ops.size
  iff : ∀ k, k < ops.size → (listed.getD k true = false ↔ k ∈ rem)
  nodup : rem.Pairwise (fun x y => (x != y) = true)
  order : rem.Pairwise (fun x y => waitsNot ops x y = true)
  self : ∀ x ∈ rem, waitsNot ops x x = true
  sw : rem.Pairwise (fun x y => (swapOk fl ops x y || waitsF ops ops.size y x) = true)
  closed : ∀ k o, ops[k]? = some o → k ∉ rem → ∀ e ∈ o.after, Region.binds .any e = true → e.on ∉ rem
  inR : ∀ (k : Nat) (o : Oper), ops[k]? = some o → ∀ e ∈ o.after, Region.binds .any e = true → e.on < ops.size

theorem Left.listed_of {rem : List Nat} {listed : Array Bool} (h : Left fl P ops rem listed) {k : Nat} (hk : k < ops.size) (hn : k ∉ rem) : listed.getD k false = true := by
  have hs : k < listed.size := by rw [h.size]; exact hk
  have h1 : ¬ listed.getD k true = false := fun e => hn ((h.iff k hk).1 e)
  simp only [Array.getD, hs, dif_pos] at h1 ⊢
  simpa using h1

theorem Left.ready_iff {rem : List Nat} {listed : Array Bool} (h : Left fl P ops rem listed) {j : Nat} : j ∈ Region.ready .any ops listed ↔ j ∈ rem ∧ ∃ o, ops[j]? = some o ∧ ∀ e ∈ o.after, Region.binds .any e = true → e.on ∉ rem := by
  rw [mem_ready]
  constructor
  · rintro ⟨h0, o, ho, ha⟩
    have hlt := (Array.getElem?_eq_some_iff.1 ho).1
    refine ⟨(h.iff j hlt).1 h0, o, ho, fun e he hb hm => ?_⟩
    have h1 := ha e he hb
    have hel := h.inR j o ho e he hb
    have h2 := (h.iff _ hel).2 hm
    have hs : e.on < listed.size := by rw [h.size]; exact hel
    simp only [Array.getD, hs, dif_pos] at h1 h2
    rw [h1] at h2
    cases h2
  · rintro ⟨hm, o, ho, ha⟩
    have hlt := h.lt j hm
    exact ⟨(h.iff j hlt).2 hm, o, ho, fun e he hb => h.listed_of (h.inR j o ho e he hb) (ha e he hb)⟩

/-- What is ready waits for nothing that is left. -/
theorem Left.waits_not {rem : List Nat} {listed : Array Bool} (h : Left fl P ops rem listed) : ∀ (f y x : Nat), (∀ o, ops[y]? = some o → ∀ e ∈ o.after, Region.binds .any e = true → e.on ∉ rem) → waitsF ops f y x = true → x ∉ rem
  | 0, y, x, _, hw => by simp [waitsF] at hw
  | f + 1, y, x, hy, hw => by
    unfold waitsF at hw
    split at hw
    · rename_i o ho
      obtain ⟨e, he, h1⟩ := List.any_eq_true.1 hw
      simp only [Bool.and_eq_true, Bool.or_eq_true, beq_iff_eq] at h1
      have hn := hy o ho e (by simpa using he) h1.1
      rcases h1.2 with h2 | h2
      · rw [← h2]; exact hn
      · exact Left.waits_not h f e.on x (fun o' ho' e' he' hb' => h.closed e.on o' ho' hn e' he' hb') h2
    · cases hw

theorem Left.head_ready {x : Nat} {rem : List Nat} {listed : Array Bool} (h : Left fl P ops (x :: rem) listed) : x ∈ Region.ready .any ops listed := by
  rw [h.ready_iff]
  have hlt := h.lt x List.mem_cons_self
  have ho : ops[x]? = some ops[x] := Array.getElem?_eq_getElem hlt
  refine ⟨List.mem_cons_self, ops[x], ho, fun e he hb hm => ?_⟩
  have key : ∀ y, waitsNot ops x y = true → e.on ≠ y := fun y hy heq => by
    unfold waitsNot at hy
    rw [ho] at hy
    have := List.all_eq_true.1 hy e (by simpa using he)
    simp [hb, heq] at this
  rcases List.mem_cons.1 hm with h1 | h1
  · exact key x (h.self x List.mem_cons_self) h1
  · exact key e.on ((List.pairwise_cons.1 h.order).1 _ h1) rfl

theorem Left.take {p q : List Nat} {j : Nat} {listed : Array Bool} (h : Left fl P ops (p ++ j :: q) listed) (hr : j ∈ Region.ready .any ops listed) : Left fl P ops (p ++ q) (listed.setIfInBounds j true) := by
  have hsub : (p ++ q).Sublist (p ++ j :: q) := List.Sublist.append_left (List.sublist_cons_self j q) p
  have hj : j ∈ p ++ j :: q := by simp
  have hjlt := h.lt j hj
  have hne : ∀ k ∈ p ++ q, k ≠ j := by
    intro k hk e
    subst e
    have hnd := h.nodup
    rw [List.pairwise_append] at hnd
    rcases List.mem_append.1 hk with h1 | h1
    · have := hnd.2.2 k h1 k (by simp); simp at this
    · have := (List.pairwise_cons.1 hnd.2.1).1 k h1; simp at this
  refine ⟨by simp [h.size], fun k hk => h.lt k (hsub.subset hk), fun k hk => ?_, h.nodup.sublist hsub, h.order.sublist hsub, fun x hx => h.self x (hsub.subset hx), h.sw.sublist hsub, ?_, h.inR⟩
  · by_cases hkj : j = k
    · subst hkj
      have hs : j < listed.size := by rw [h.size]; exact hk
      constructor
      · intro h1; simp [hs] at h1
      · intro h1; exact absurd rfl (hne j h1)
    · rw [getD_set_ne true hkj, h.iff k hk]
      constructor
      · intro h1
        rcases List.mem_append.1 h1 with h2 | h2
        · exact List.mem_append_left _ h2
        · rcases List.mem_cons.1 h2 with h3 | h3
          · exact absurd h3.symm hkj
          · exact List.mem_append_right _ h3
      · intro h1; exact hsub.subset h1
  · intro k o ho hk e he hb hm
    by_cases hkj : k = j
    · subst hkj
      obtain ⟨_, o', ho', ha⟩ := h.ready_iff.1 hr
      obtain rfl : o = o' := by rw [ho] at ho'; exact Option.some.inj ho'
      exact ha e he hb (hsub.subset hm)
    · refine h.closed k o ho (fun h1 => hk ?_) e he hb (hsub.subset hm)
      rcases List.mem_append.1 h1 with h2 | h2
      · exact List.mem_append_left _ h2
      · rcases List.mem_cons.1 h2 with h3 | h3
        · exact absurd h3 hkj
        · exact List.mem_append_right _ h3

/-- An operation comes to the front. -/
theorem wpC_front (hsel : Region.noSelect ops = true) (hok : ∀ o ∈ ops, opKind o.op ≤ 1 → opOk P o.op = true) (hnp : ∀ c a w, ¬ Q (.panic c) a w) (hno : ∀ a w, ¬ Q .outgrown a w) {j : Nat} {q : List Nat} :
    ∀ (p : List Nat), (∀ x ∈ p, swapOk fl ops x j = true) → ∀ a w, wpC fl P ops Q (p ++ j :: q) a w → wpC fl P ops Q (j :: (p ++ q)) a w
  | [], _, a, w, h => h
  | x :: p, hp, a, w, h => by
    have hx := hp x List.mem_cons_self
    unfold swapOk at hx
    split at hx
    · rename_i ox oj hox hoj
      simp only [Bool.and_eq_true, Bool.or_eq_true, beq_iff_eq] at hx
      obtain ⟨hd, h1⟩ := h
      have h2 : wpOp P ops Q x (fun a' w' => (fl x = true → Ext w w') ∧ dynAt ops j a' ∧ wpOp P ops Q j (fun a2 w2 => (fl j = true → Ext w' w2) ∧ wpC fl P ops Q (p ++ q) a2 w2) a' w') a w :=
        wpOp_mono (fun a' w' h' => ⟨h'.1, wpC_front hsel hok hnp hno p (fun y hy => hp y (List.mem_cons_of_mem _ hy)) a' w' h'.2⟩) h1
      have h3 := swap fl hox hoj hx.1 (by
          rcases hx.2 with (((h | h) | h) | h) | h
          · exact .inl h
          · exact .inr (.inl h)
          · exact .inr (.inr (.inl h))
          · exact .inr (.inr (.inr (.inl h)))
          · exact .inr (.inr (.inr (.inr h))))
        (hok ox (Array.mem_of_getElem? hox)) (hok oj (Array.mem_of_getElem? hoj)) (fun cs b => Region.noSelect_spec hsel x ox cs b hox) (fun cs b => Region.noSelect_spec hsel j oj cs b hoj) hnp hno hd h2
      exact h3
    · cases hx

/-- Whatever order is drawn. -/
theorem wpAny_of_wpC (hsel : Region.noSelect ops = true) (hok : ∀ o ∈ ops, opKind o.op ≤ 1 → opOk P o.op = true) (hnp : ∀ c a w, ¬ Q (.panic c) a w) (hno : ∀ a w, ¬ Q .outgrown a w) :
    ∀ (n : Nat) (rem : List Nat) (listed : Array Bool) (a : Act) (w : World), rem.length = n → Left fl P ops rem listed → wpC fl P ops Q rem a w → wpAny P .any ops Q n listed a w := by
  intro n
  induction n with
  | zero =>
    intro rem listed a w hn hL h
    obtain rfl := List.eq_nil_of_length_eq_zero hn
    refine ⟨?_, h⟩
    apply List.eq_nil_iff_forall_not_mem.2
    intro j hj
    have := (hL.ready_iff.1 hj).1
    simp at this
  | succ n ih =>
    intro rem listed a w hn hL h
    cases rem with
    | nil => simp at hn
    | cons x rem =>
      refine ⟨fun h0 => ?_, fun j hj => ?_⟩
      · have := hL.head_ready
        rw [h0] at this
        cases this
      · have hjr := hL.ready_iff.1 hj
        obtain ⟨p, q, hpq⟩ := List.append_of_mem hjr.1
        rw [hpq] at h hL hn
        have hsw : ∀ y ∈ p, swapOk fl ops y j = true := by
          intro y hy
          have h1 := (List.pairwise_append.1 hL.sw).2.2 y hy j (by simp)
          simp only [Bool.or_eq_true] at h1
          rcases h1 with h1 | h1
          · exact h1
          · exfalso
            obtain ⟨_, o', ho', ha⟩ := hL.ready_iff.1 hj
            refine hL.waits_not ops.size j y (fun o ho e he hb => ?_) h1 (by simp [hy])
            obtain rfl : o = o' := by rw [ho] at ho'; exact Option.some.inj ho'
            exact ha e he hb
        obtain ⟨_, h2⟩ := wpC_front hsel hok hnp hno p hsw a w h
        have hL2 := hL.take hj
        refine wpOp_mono (fun a' w' h' => ih (p ++ q) _ a' w' (by simp at hn ⊢; omega) hL2 h'.2) h2

/-- At the end of the region each temporary that nobody writes any more is as it was. -/
theorem wpF_end (hnp : ∀ c a w, ¬ Q (.panic c) a w) (hno : ∀ a w, ¬ Q .outgrown a w) : ∀ (l : List Nat) (a : Act) (w : World), (∀ k ∈ l, k < ops.size) → wpF fl P ops Q l a w →
    ∃ a' w', Q .normal a' w' ∧ ∀ t, (∀ k ∈ l, ∀ o, ops[k]? = some o → o.dst ≠ some t) → a'.tmps[t]? = a.tmps[t]?
  | [], a, w, _, h => ⟨a, w, h, fun _ _ => rfl⟩
  | i :: l, a, w, hl, h => by
    have hlt := hl i List.mem_cons_self
    have ho : ops[i]? = some ops[i] := Array.getElem?_eq_getElem hlt
    obtain ⟨a1, w1, ⟨u, d, rfl⟩, _, h1⟩ := wpOp_some ho hnp hno (wpOp_act ho h)
    obtain ⟨a2, w2, hq, ht⟩ := wpF_end hnp hno l _ w1 (fun k hk => hl k (List.mem_cons_of_mem _ hk)) h1
    refine ⟨a2, w2, hq, fun t hT => ?_⟩
    rw [ht t (fun k hk => hT k (List.mem_cons_of_mem _ hk))]
    have hne := hT i List.mem_cons_self _ ho
    cases hd : ops[i].dst with
    | none => rfl
    | some e =>
      have : e ≠ t := fun e' => hne (by rw [hd, e'])
      simp [Act.put, Array.getElem?_setIfInBounds_ne this]

def Only (ops : Array Oper) (Q : Exit → Act → World → Prop) : Exit → Act → World → Prop := fun e a w => e = .normal ∧ dynAll ops a = true ∧ Q .normal a w
def Strict (Q : Exit → Act → World → Prop) : Exit → Act → World → Prop := fun e a w => e = .normal ∧ Q .normal a w

theorem eval_of_tmps {a a' : Act} {x : Operand} (h : ∀ t, x = .tmp t → a'.tmps[t]? = a.tmps[t]?) : a'.eval x = a.eval x := by
  cases x with
  | tmp t => simp [Act.eval, h t rfl]
  | _ => rfl

theorem wpC_of_wpF : ∀ (l : List Nat) (a : Act) (w : World), (∀ k ∈ l, k < ops.size) → lateOk ops l = true → wpF fl P ops (Only ops Q) l a w → wpC fl P ops (Strict Q) l a w
  | [], a, w, _, _, h => ⟨rfl, h.2.2⟩
  | i :: l, a, w, hl, hlate, h => by
    have hnp : ∀ c a w, ¬ (Only ops Q) (.panic c) a w := fun c a w hq => by cases hq.1
    have hno : ∀ a w, ¬ (Only ops Q) .outgrown a w := fun a w hq => by cases hq.1
    have hlt := hl i List.mem_cons_self
    have ho : ops[i]? = some ops[i] := Array.getElem?_eq_getElem hlt
    simp only [lateOk, ho, Bool.and_eq_true] at hlate
    refine ⟨?_, ?_⟩
    · intro o ho' hw hk
      obtain rfl : ops[i] = o := by rw [ho] at ho'; exact Option.some.inj ho'
      by_cases hn : needDyn ops[i].op = true
      · obtain ⟨a', w', hq, ht⟩ := wpF_end hnp hno (i :: l) a w hl h
        have hdyn := hq.2.1
        have hall := List.all_eq_true.1 hdyn ops[i] (by simp)
        have hlook : ∀ t, t ∈ ops[i].looksAt ops → a'.tmps[t]? = a.tmps[t]? := fun t htm => ht t fun k hk o ho2 hd => by
          have h1 := hlate.1
          simp only [hn, Bool.not_true, Bool.false_or] at h1
          have h2 := List.all_eq_true.1 h1 k hk
          rw [ho2] at h2
          simp [hd, htm] at h2
        have he : opDyn a'.eval ops[i].op = opDyn a.eval ops[i].op := opDyn_congr fun x hx => eval_of_tmps fun t hxt => hlook t (by
          subst hxt
          exact List.mem_append_left _ (List.mem_filterMap.2 ⟨.tmp t, by simpa using hx, rfl⟩))
        have hwe : Region.wanted ops[i] (yielded ops a'.tmps) = Region.wanted ops[i] (yielded ops a.tmps) := by
          unfold Region.wanted
          cases hg : ops[i].guard with
          | none => rfl
          | some gw =>
            obtain ⟨g, want⟩ := gw
            have hy : yielded ops a'.tmps g = yielded ops a.tmps g := by
              unfold yielded
              cases htt : (ops[g]?).bind (·.dst) with
              | none => rfl
              | some t =>
                have h5 := hlook t (by simp [Oper.looksAt, hg, htt])
                simp only [Option.bind_some, h5]
            simp only [hy]
        simp only [hn, Bool.not_true, Bool.false_or, hwe, hw, he] at hall
        exact hall
      · revert hn hk
        generalize ops[i].op = op
        intro hk hn
        cases op <;> first | rfl | (exfalso; revert hn; simp [needDyn]; done) | skip
        case call c =>
          obtain ⟨callee, args, argTypes⟩ := c
          cases callee with
          | builtin b => cases b <;> first | rfl | (exfalso; revert hn; simp [needDyn]; done)
          | value f => rfl
          | invoke r m => rfl
    · have h2 := wpOp_mono (fun a' w' h' => And.intro h'.1 (wpC_of_wpF l a' w' (fun k hk => hl k (List.mem_cons_of_mem _ hk)) hlate.2 h'.2)) h
      unfold wpOp at h2 ⊢
      simp only [ho] at h2 ⊢
      split
      · rename_i hw
        simp only [hw, if_true] at h2
        rcases h2 with h2 | ⟨_, a0, w0, hq⟩
        case inr => exact absurd hq (hno _ _)
        refine .inl ?_
        unfold Oper.wp at *
        generalize (execOp a.eval ops[i]).run P w = r at *
        cases r with
        | ok n w' =>
          cases n <;> (try simp only [Oper.upon] at h2 ⊢) <;> try exact h2
          case enter f args =>
            refine Calls.mono h2 fun e w'' he => ?_
            cases e with
            | returned u => exact he
            | panicked c => exact absurd he (hnp _ _ _)
            | outgrown =>
              obtain ⟨a0, w0, hq⟩ := he
              exact absurd hq (hno _ _)
        | halt x w' =>
          cases x <;> (try simp only [Oper.upon] at h2 ⊢) <;> try exact h2
          exact absurd h2 (hnp _ _ _)
      · rename_i hw
        simp only [hw] at h2
        exact h2

/-- The operations of a list of numbers. -/
def pickOps (ops : Array Oper) : List Nat → List Oper
  | [] => []
  | i :: l => match ops[i]? with
    | some o => o :: pickOps ops l
    | none => pickOps ops l

/-- Stretches of the fixed order; a stretch that bears a mark is one operation that turns no old block. -/
def wpSegs (P : Program) (ops : Array Oper) (Q : Exit → Act → World → Prop) : List (Bool × List Nat) → Act → World → Prop
  | [], a, w => Q .normal a w
  | (b, l) :: rest, a, w => wpList P ops (fun e a' w' => e = .normal ∧ (b = true → Ext w w') ∧ wpSegs P ops Q rest a' w') (pickOps ops l) a w
def flags (segs : List (Bool × List Nat)) (i : Nat) : Bool := segs.any fun s => s.1 && s.2.contains i
def segsOk (segs : List (Bool × List Nat)) : Bool := segs.all (fun s => !s.1 || s.2.length == 1) && segs.all fun s => s.1 || s.2.all fun i => !flags segs i

theorem wpF_of_list {R : Act → World → Prop} {rest : List Nat} : ∀ (l : List Nat) (a : Act) (w : World), (∀ k ∈ l, fl k = false) → (∀ k ∈ l, k < ops.size) → (∀ a w, R a w → wpF fl P ops (Only ops Q) rest a w) →
    wpList P ops (fun e a' w' => e = .normal ∧ R a' w') (pickOps ops l) a w → wpF fl P ops (Only ops Q) (l ++ rest) a w
  | [], a, w, _, _, hR, h => hR _ _ h.2
  | i :: l, a, w, hf, hl, hR, h => by
    have hlt := hl i List.mem_cons_self
    have ho : ops[i]? = some ops[i] := Array.getElem?_eq_getElem hlt
    simp only [pickOps, ho] at h
    have mono : ∀ a w, wpList P ops (fun e a' w' => e = .normal ∧ R a' w') (pickOps ops l) a w → wpF fl P ops (Only ops Q) (l ++ rest) a w := fun a w h =>
      wpF_of_list l a w (fun k hk => hf k (List.mem_cons_of_mem _ hk)) (fun k hk => hl k (List.mem_cons_of_mem _ hk)) hR h
    show wpOp P ops (Only ops Q) i _ a w
    unfold wpOp
    simp only [ho]
    unfold wpList at h
    split
    · rename_i hw
      simp only [hw, if_true] at h
      rcases h with h | ⟨_, a0, w0, hq⟩
      case inr => cases hq.1
      refine .inl ?_
      unfold Oper.wp at *
      generalize (execOp a.eval ops[i]).run P w = r at *
      have hfi : fl i = false := hf i List.mem_cons_self
      have go : ∀ w0 a w, wpList P ops (fun e a' w' => e = .normal ∧ R a' w') (pickOps ops l) a w → ((fl i = true → Ext w0 w) ∧ wpF fl P ops (Only ops Q) (l ++ rest) a w) := fun w0 a w h => ⟨fun e => (by rw [hfi] at e; cases e), mono a w h⟩
      cases r with
      | ok n w' =>
        cases n <;> (try simp only [Oper.upon] at h ⊢) <;> first | exact go _ _ _ h | exact h | skip
        case enter f args =>
          refine Calls.mono h fun e w'' he => ?_
          cases e with
          | returned u => exact go _ _ _ he
          | panicked c => cases he.1
          | outgrown =>
            obtain ⟨a0, w0, hq⟩ := he
            cases hq.1
        case row row args => exact Rows.mono h fun u w'' he => go _ _ _ he
      | halt x w' =>
        cases x <;> (try simp only [Oper.upon] at h ⊢) <;> first | exact h | skip
        cases h.1
    · rename_i hw
      simp only [hw] at h
      exact ⟨fun e => (by rw [hf i List.mem_cons_self] at e; cases e), mono _ _ h⟩

theorem wpF_of_one {R : Act → World → Prop} {rest : List Nat} {i : Nat} {a : Act} {w : World} (hl : i < ops.size) (hR : ∀ a w, R a w → wpF fl P ops (Only ops Q) rest a w)
    (h : wpList P ops (fun e a' w' => e = .normal ∧ Ext w w' ∧ R a' w') (pickOps ops [i]) a w) : wpF fl P ops (Only ops Q) (i :: rest) a w := by
  have ho : ops[i]? = some ops[i] := Array.getElem?_eq_getElem hl
  simp only [pickOps, ho] at h
  show wpOp P ops (Only ops Q) i _ a w
  unfold wpOp
  simp only [ho]
  unfold wpList at h
  have go : ∀ a1 w1, wpList P ops (fun e a' w' => e = .normal ∧ Ext w w' ∧ R a' w') [] a1 w1 → ((fl i = true → Ext w w1) ∧ wpF fl P ops (Only ops Q) rest a1 w1) := fun a1 w1 h => ⟨fun _ => h.2.1, hR _ _ h.2.2⟩
  split
  · rename_i hw
    simp only [hw, if_true] at h
    rcases h with h | ⟨_, a0, w0, hq⟩
    case inr => cases hq.1
    refine .inl ?_
    unfold Oper.wp at *
    generalize (execOp a.eval ops[i]).run P w = r at *
    cases r with
    | ok n w' =>
      cases n <;> (try simp only [Oper.upon] at h ⊢) <;> first | exact go _ _ h | exact h | skip
      case enter f args =>
        refine Calls.mono h fun e w'' he => ?_
        cases e with
        | returned u => exact go _ _ he
        | panicked c => cases he.1
        | outgrown =>
          obtain ⟨a0, w0, hq⟩ := he
          cases hq.1
      case row row args => exact Rows.mono h fun u w'' he => go _ _ he
    | halt x w' =>
      cases x <;> (try simp only [Oper.upon] at h ⊢) <;> first | exact h | skip
      cases h.1
  · rename_i hw
    simp only [hw] at h
    exact go _ _ h

theorem wpF_of_segs (F : Nat → Bool) : ∀ (segs : List (Bool × List Nat)) (a : Act) (w : World), (∀ s ∈ segs, s.1 = true → s.2.length = 1) → (∀ s ∈ segs, s.1 = false → ∀ i ∈ s.2, F i = false) → (∀ s ∈ segs, ∀ i ∈ s.2, i < ops.size) →
    wpSegs P ops (Only ops Q) segs a w → wpF F P ops (Only ops Q) (segs.flatMap (·.2)) a w
  | [], a, w, _, _, _, h => h
  | (b, l) :: rest, a, w, h1, h2, h3, h => by
    have ih := fun a w => wpF_of_segs F rest a w (fun s hs => h1 s (List.mem_cons_of_mem _ hs)) (fun s hs => h2 s (List.mem_cons_of_mem _ hs)) (fun s hs => h3 s (List.mem_cons_of_mem _ hs))
    simp only [List.flatMap_cons]
    cases b with
    | false =>
      refine wpF_of_list (R := fun a' w' => (false = true → Ext w w') ∧ wpSegs P ops (Only ops Q) rest a' w') l a w (h2 _ List.mem_cons_self rfl) (h3 _ List.mem_cons_self) (fun a w h => ih a w h.2) h
    | true =>
      obtain ⟨i, rfl⟩ := List.length_eq_one_iff.1 (h1 _ List.mem_cons_self rfl)
      refine wpF_of_one (R := fun a' w' => wpSegs P ops (Only ops Q) rest a' w') (h3 _ List.mem_cons_self i (by simp)) (fun a w h => ih a w h) ?_
      simpa [wpSegs] using h

/-- **A REGION WHOSE ORDER IS OPEN**: one fixed order of its operations (reckonings and reads first) serves for all. -/
theorem wp_region_segs {id : Nat} {a : Act} {w : World} (hm : P.follows .mixedOrders = true) (segs : List (Bool × List Nat)) (hs : segsOk segs = true) (hok : canonB (flags segs) P ops (segs.flatMap (·.2)) = true)
    (h : wpSegs P ops (Only ops Q) segs a w.drew) : (Code.region id ops true).wp P Q a w := by
  simp only [canonB, Bool.and_eq_true] at hok
  obtain ⟨⟨⟨⟨⟨⟨⟨⟨hsel, hall⟩, hlt⟩, hnd⟩, hop⟩, hself⟩, hord⟩, hsw⟩, hlate⟩ := hok
  generalize hF : flags segs = F at *
  simp only [segsOk, Bool.and_eq_true] at hs
  have hs1 : ∀ s ∈ segs, s.1 = true → s.2.length = 1 := fun s hm h1 => by
    have := List.all_eq_true.1 hs.1 s hm
    simpa [h1] using this
  have hs2 : ∀ s ∈ segs, s.1 = false → ∀ i ∈ s.2, F i = false := fun s hm h1 i hi => by
    have := List.all_eq_true.1 hs.2 s hm
    simp only [h1, Bool.false_or] at this
    have := List.all_eq_true.1 this i hi
    rw [hF] at this
    simpa using this
  have hlt' : ∀ k ∈ segs.flatMap (·.2), k < ops.size := fun k hk => by have := List.all_eq_true.1 hlt k hk; simpa using this
  have hs3 : ∀ s ∈ segs, ∀ i ∈ s.2, i < ops.size := fun s hm i hi => hlt' i (List.mem_flatMap.2 ⟨s, hm, hi⟩)
  have h0 := wpF_of_segs F segs a w.drew hs1 hs2 hs3 h
  generalize segs.flatMap (·.2) = ord at *
  have hmem : ∀ k, k < ops.size → k ∈ ord := fun k hk => by have := List.all_eq_true.1 hall k (by simpa using hk); simpa using this
  have hok1 : ∀ o ∈ ops, opKind o.op ≤ 1 → opOk P o.op = true := fun o ho hk => by
    have := Array.all_eq_true_iff_forall_mem.1 hop o ho
    simp only [Bool.and_eq_true, Bool.or_eq_true] at this
    rcases this.1 with h1 | h1
    · simp [hk] at h1
    · exact h1
  have hinR : ∀ (k : Nat) (o : Oper), ops[k]? = some o → ∀ e ∈ o.after, Region.binds .any e = true → e.on < ops.size := fun k o ho e he hb => by
    have := Array.all_eq_true_iff_forall_mem.1 hop o (Array.mem_of_getElem? ho)
    simp only [Bool.and_eq_true] at this
    have h1 := List.all_eq_true.1 this.2 e (by simpa using he)
    simpa [hb] using h1
  have hL : Left F P ops ord (Array.replicate ops.size false) := by
    refine ⟨by simp, hlt', fun k hk => ?_, pairB_iff.1 hnd, pairB_iff.1 hord, fun x hx => List.all_eq_true.1 hself x hx, pairB_iff.1 hsw, fun k o ho hk => ?_, hinR⟩
    · simp [hk, hmem k hk]
    · exact absurd (hmem k (Array.getElem?_eq_some_iff.1 ho).1) hk
  have hlen : ord.length = ops.size := by
    have hnd' : ord.Nodup := (pairB_iff.1 hnd).imp (fun h => by simpa using h)
    have h1 : ord.Perm (List.range ops.size) := (List.perm_ext_iff_of_nodup hnd' List.nodup_range).2 fun k => by
      simp only [List.mem_range]
      exact ⟨hlt' k, hmem k⟩
    simpa using h1.length_eq
  have h1 := wpC_of_wpF ord a w.drew hlt' hlate h0
  have h2 := wpAny_of_wpC hsel hok1 (fun c a w hq => by cases hq.1) (fun a w hq => by cases hq.1) ops.size ord _ a w.drew hlen hL h1
  exact Code.wp_mono (fun e a w hq => by rw [hq.1]; exact hq.2) (wp_region_any hm h2)
end
end Go.Proofs.Cab

/- The numbers under which this dump holds sync.Mutex's functions and types. -/
namespace Go.Proofs.Ytdadhificeplmaa
abbrev muLink : Go.Conc.Locks.MuLink := { lock := 40, unlock := 41, ilock := 62, iunlock := 63, lockSlow := 76, unlockSlow := 79, disable := 72, enable := 74, acquire := 75, relMerge := 77, cas32 := 73, add32 := 78, tMutex := 73, tIMutex := 71, tPMutex := 102, tPIMutex := 111, tPI32 := 113, tUP := 115, tNoCopy := 68, tU32 := 69 }
theorem muLib : Go.Conc.Locks.MuLib Try.prog muLink :=
  ⟨Try.func40, Try.func41, Try.func62, Try.func63, Try.func72, Try.func74, Try.func75, Try.func77, Try.func73, Try.func78, Try.underlying71, Try.runUnderlying71, Try.sizeOf71, Try.isAgg71, Try.zeroValue71, Try.underlying73, Try.runUnderlying73, Try.sizeOf73, Try.isAgg73, Try.zeroValue73, Try.underlying102, Try.runUnderlying102, Try.sizeOf102, Try.isAgg102, Try.zeroValue102, Try.underlying111, Try.runUnderlying111, Try.sizeOf111, Try.isAgg111, Try.zeroValue111, Try.underlying113, Try.runUnderlying113, Try.sizeOf113, Try.isAgg113, Try.zeroValue113, Try.underlying115, Try.runUnderlying115, Try.sizeOf115, Try.isAgg115, Try.zeroValue115, Try.underlying68, Try.runUnderlying68, Try.sizeOf68, Try.isAgg68, Try.zeroValue68, Try.underlying21, Try.runUnderlying21, Try.sizeOf21, Try.isAgg21, Try.zeroValue21, (by kernel_rfl)⟩
end Go.Proofs.Ytdadhificeplmaa

/- A memo in memory; find, Get. -/
set_option linter.unusedVariables false
set_option linter.unusedSimpArgs false
namespace Go.Proofs.Ytdadhificeplmaa
open Go.RowKit Go.Proofs.YtdadhificeplmaaW.PrintWords Go.Proofs.YtdadhificeplmaaW.PrintLast Go.Proofs.YtdadhificeplmaaW.PrintMore Go.Proofs.Cab
open Go.MuLone
/-- An entry: its block, the number of blocks, its kind, its text. -/
structure Ent where
  b : Int
  n : Int
  k : Int
  s : ByteArray
def Ent0 : Ent := ⟨0, 0, 0, ⟨#[]⟩⟩
def Ent.val (x : Ent) : Value := .agg #[.int .i64 x.b, .int .i64 x.n, .int .i64 x.k, .string x.s]
def kE : Kd Ent := Kd.iso (Kd.pair (Kd.int .i64) (Kd.pair (Kd.int .i64) (Kd.pair (Kd.int .i64) Kd.string))) (fun x : Ent => (x.b, x.n, x.k, x.s))
theorem kE_open {w : World} {x : Ent} {cs : List Value} (h : kE.K w x cs) : cs = [.int .i64 x.b, .int .i64 x.n, .int .i64 x.k, .string x.s] := by
  obtain ⟨_, _, rfl, rfl, ⟨_, _, rfl, rfl, ⟨_, _, rfl, rfl, rfl⟩⟩⟩ := h
  exact rfl
theorem kE_openM {w : World} {base : Nat} {ok : Nat → Prop} {x : Ent} {cs : List Value} (h : kE.M w base ok x cs) : cs = [.int .i64 x.b, .int .i64 x.n, .int .i64 x.k, .string x.s] := by
  obtain ⟨_, _, rfl, rfl, ⟨_, _, rfl, rfl, ⟨_, _, rfl, rfl, rfl⟩⟩⟩ := h
  exact rfl
theorem kE_mkM (w : World) (base : Nat) (ok : Nat → Prop) (x : Ent) : kE.M w base ok x [.int .i64 x.b, .int .i64 x.n, .int .i64 x.k, .string x.s] := ⟨[.int .i64 x.b], _, rfl, rfl, [.int .i64 x.n], _, rfl, rfl, [.int .i64 x.k], _, rfl, rfl, rfl⟩
theorem info78 : (Try.prog.info? 78).map (fun i => (i.zero, i.size, i.bytes)) = some (some (.agg #[.int .i64 0, .int .i64 0, .int .i64 0, .string ⟨#[]⟩]), 4, 40) := by kernel_rfl
/-- A row of entries of the call's own (or a memo's): where an element lies. -/
theorem at_E {w : World} {base : Nat} {ok : Nat → Prop} {v : Value} {xs : List Ent} (h : Kd.R kE 78 w base ok v xs) (k : Nat) (hk : k < xs.length) :
    ∃ g cap, v = .slice (some ⟨g, 0, none⟩) xs.length cap ∧ ok g ∧ base ≤ g ∧ g < w.heap.size ∧ w.cell? ⟨g, k * 4, none⟩ = some (.int .i64 xs[k].b) ∧ w.cell? ⟨g, k * 4 + 1, none⟩ = some (.int .i64 xs[k].n) ∧ w.cell? ⟨g, k * 4 + 2, none⟩ = some (.int .i64 xs[k].k) ∧ w.cell? ⟨g, k * 4 + 3, none⟩ = some (.string xs[k].s) := by
  obtain ⟨g, cap, rfl, hb, hg, _⟩ := Kd.R_form h (by omega)
  obtain ⟨c, hcl, hM, hc, hf⟩ := Kd.R_elem h Ent0 (k : Int) (by omega) (by omega)
  have hp : xs.getD (k : Int).toNat Ent0 = xs[k] := by simp [List.getD_eq_getElem?_getD, List.getElem?_eq_getElem hk]
  rw [hp] at hM
  obtain rfl := kE_openM hM
  have hsz : kE.sz = 4 := rfl
  have e0 := hc 0 _ rfl
  have e1 := hc 1 _ rfl
  have e2 := hc 2 _ rfl
  have e3 := hc 3 _ rfl
  simp only [hsz, Int.toNat_natCast, Nat.add_zero] at e0 e1 e2 e3
  exact ⟨g, cap, rfl, h.1 g rfl, hb, hg, e0, e1, e2, e3⟩
/-- The cells of a memo. -/
def MemoAt (W : World) (b : Nat) (size : Int) (v : Value) : Prop := W.heap[b]? = some (.cells #[.int .i32 0, .int .u32 0, .int .i64 size, v] 76 (0, 0))
def memoHeld (W : World) (b : Nat) (size : Int) (v : Value) : Prop := W.heap[b]? = some (.cells #[.int .i32 1, .int .u32 0, .int .i64 size, v] 76 (0, 0))
def isText (block : Int) (x : Ent) : Bool := decide (x.b = block) && decide (x.k = 1)
set_option maxHeartbeats 4000000 in
set_option maxRecDepth 100000 in
theorem find1_any (x : Ent) (block : Int) (g : Nat) (w : World) (hg : w.cell? ⟨g, 0, none⟩ = some (.int .i64 block)) :
    Calls Try.prog 67 #[.agg #[.int .i64 x.b, .int .i64 x.n, .int .i64 x.k, .string x.s], .pointer (some ⟨g, 0, none⟩)] w fun e w' => e = .returned (.bool (isText block x)) ∧ Below w.heap.size w w' := by
  have hlt := World.block_lt_of_cell? w _ hg
  have hne : ¬ g = w.heap.size := by simp at hlt; omega
  go_enter Try.func67, Try.ntmps67
  by_cases h0 : x.b = block
  · have h0b : (x.b == block) = true := by simpa using h0
    by_cases h2 : x.k = 1
    · have h2b : (x.k == 1) = true := by simpa using h2
      have HI : isText block x = true := by simp [isText, h0, h2]
      rw [HI]
      have H0 := Aside0.mk h0
      have H2 := Aside0.mk h2
      clear h0 h2 HI
      go_wp2_with fail
      go_ret
      exact ⟨rfl, below_alloc (Below.refl _ _) _⟩
    · have h2b : (x.k == 1) = false := by simpa using h2
      have HI : isText block x = false := by simp [isText, h2]
      rw [HI]
      have H0 := Aside0.mk h0
      have H2 := Aside0.mk h2
      clear h0 h2 HI
      go_wp2_with fail
      go_ret
      exact ⟨rfl, below_alloc (Below.refl _ _) _⟩
  · have h0b : (x.b == block) = false := by simpa using h0
    have HI : isText block x = false := by simp [isText, h0]
    rw [HI]
    have H0 := Aside0.mk h0
    clear h0 HI
    go_wp2_with fail
    go_ret
    exact ⟨rfl, below_alloc (Below.refl _ _) _⟩
end Go.Proofs.Ytdadhificeplmaa

/- find. -/
set_option linter.unusedVariables false
set_option linter.unusedSimpArgs false
namespace Go.Proofs.Ytdadhificeplmaa
open Go.RowKit Go.Proofs.YtdadhificeplmaaW.PrintWords Go.Proofs.YtdadhificeplmaaW.PrintLast Go.Proofs.YtdadhificeplmaaW.PrintMore Go.Proofs.Cab
open Go.MuLone
def findI (block : Int) : List Ent → Nat → Int
  | [], _ => -1
  | x :: l, i => if isText block x then (i : Int) else findI block l (i + 1)
def findF (es : List Ent) (block : Int) : Int := findI block es 0
set_option maxHeartbeats 4000000 in
set_option maxRecDepth 100000 in
theorem index_any (base : Nat) (ok : Nat → Prop) (v : Value) (es : List Ent) (block : Int) (g : Nat) (w : World) (hR : Kd.R kE 78 w base ok v es) (hg : w.cell? ⟨g, 0, none⟩ = some (.int .i64 block)) (hn : es.length ≤ 100000) :
    Calls Try.prog 66 #[v, .func (.func 67) #[] #[.pointer (some ⟨g, 0, none⟩)]] w fun e w' => e = .returned (.int .i64 (findF es block)) ∧ Below w.heap.size w w' := by
  have HR := Aside0.mk hR
  have HG := Aside0.mk hg
  obtain ⟨A, c, rfl⟩ := Kd.R_slice hR
  clear hR hg
  go_enter Try.func66, Try.ntmps66
  go_wp2_with fail
  go_loopw [8] (fun v8 wr => ∃ k : Nat, v8 = .int .i64 (k : Int) ∧ k ≤ es.length ∧ Aside0 (findI block (es.drop k) k = findF es block) ∧ Aside0 (Below w.heap.size w wr)) (fun v8 wr => ((es.length : Int) - intOf v8).toNat)
  case atStart => exact ⟨0, rfl, by omega, ⟨rfl⟩, ⟨Below.refl _ _⟩⟩
  case round =>
    obtain ⟨k, rfl, hk, HF, HB⟩ := hrel
    by_cases hlt : k < es.length
    · obtain ⟨g2, cap, hv, _, _, hg2, e0, e1, e2, e3⟩ := at_E HR.out k hlt
      injection hv with hv1 hv2 hv3
      subst hv1 hv3
      have e0 := (HB.out.cell hg2).trans e0
      have e1 := (HB.out.cell hg2).trans e1
      have e2 := (HB.out.cell hg2).trans e2
      have e3 := (HB.out.cell hg2).trans e3
      have HD : Aside0 (findI block (es.drop k) k = if isText block es[k] then (k : Int) else findI block (es.drop (k + 1)) (k + 1)) := ⟨by rw [List.drop_eq_getElem_cons hlt]; rfl⟩
      obtain ⟨x, hx⟩ : ∃ x, es[k] = x := ⟨_, rfl⟩
      rw [hx] at e0 e1 e2 e3 HD
      clear hx
      go_wp2_with fail
      refine (find1_any x block g _ ((HB.out.cell (World.block_lt_of_cell? w _ HG.out)).trans HG.out)).mono ?_
      rintro e w1 ⟨rfl, hb⟩
      have HB1 := Aside0.mk (below_step HB.out hb)
      clear hb
      cases hi : isText block x
      · have HI := Aside0.mk hi
        clear hi
        go_wp2_with fail
        go_roundw
        case rel => exact ⟨k + 1, by go_num, by omega, ⟨by rw [← HF.out, HD.out, HI.out]; rfl⟩, HB1⟩
        case measure => simp [intOf]; omega
      · have HI := Aside0.mk hi
        clear hi
        go_wp2_with fail
        go_ret
        exact ⟨by rw [← HF.out, HD.out, HI.out]; rfl, HB1.out⟩
    · obtain rfl : k = es.length := by omega
      go_wp2_with fail
      go_ret
      refine ⟨?_, HB.out⟩
      rw [← HF.out, List.drop_length]
      rfl
set_option maxHeartbeats 4000000 in
set_option maxRecDepth 100000 in
theorem find_any (base b : Nat) (ok : Nat → Prop) (size : Int) (v : Value) (es : List Ent) (block : Int) (w : World) (hM : w.heap[b]? = some (.cells #[.int .i32 1, .int .u32 0, .int .i64 size, v] 76 (0, 0))) (hR : Kd.R kE 78 w base ok v es) (hn : es.length ≤ 100000) :
    Calls Try.prog 46 #[.pointer (some ⟨b, 0, none⟩), .int .i64 block] w fun e w' => e = .returned (.int .i64 (findF es block)) ∧ Below w.heap.size w w' := by
  have HR := Aside0.mk hR
  have HM := Aside0.mk hM
  have hc : w.cell? ⟨b, 3, none⟩ = some v := (blk_cell hM 3).trans rfl
  have hlt := blk_lt hM
  have hne : ¬ b = w.heap.size := by omega
  obtain ⟨A, c, rfl⟩ := Kd.R_slice hR
  clear hR hM
  go_enter Try.func46, Try.ntmps46
  go_wp2_with fail
  refine (index_any base ok _ es block w.heap.size _ (Kd.R_alloc HR.out _) ((blk_cell (blk_new w _) 0).trans rfl) hn).mono ?_
  rintro e w1 ⟨rfl, hb⟩
  have HB1 := Aside0.mk (below_step (below_alloc (Below.refl _ _) _) hb)
  clear hb
  go_wp2_with fail
  go_ret
  exact ⟨rfl, HB1.out⟩
end Go.Proofs.Ytdadhificeplmaa

/- The lock round what only reads; Get. -/
set_option linter.unusedVariables false
set_option linter.unusedSimpArgs false
namespace Go.Proofs.Ytdadhificeplmaa
open Go.RowKit Go.Proofs.YtdadhificeplmaaW.PrintWords Go.Proofs.YtdadhificeplmaaW.PrintLast Go.Proofs.YtdadhificeplmaaW.PrintMore Go.Proofs.Cab
open Go.MuLone
theorem below_locked {w w2 : World} {b : Nat} {size : Int} {v : Value} (hM : MemoAt w b size v) (hb : Below w.heap.size (w.setCell ⟨b, 0, none⟩ (.int .i32 1)) w2) : Below w.heap.size w (w2.setCell ⟨b, 0, none⟩ (.int .i32 0)) := by
  have h1 : Below 0 w (w.setCell ⟨b, 0, none⟩ (.int .i32 1)) := (Below.refl 0 w).setCell (Nat.zero_le _) _
  have h2 : Below 0 w2 (w2.setCell ⟨b, 0, none⟩ (.int .i32 0)) := (Below.refl 0 w2).setCell (Nat.zero_le _) _
  refine ⟨h2.os.trans (hb.os.trans h1.os), h2.tape.trans (hb.tape.trans h1.tape), h2.output.trans (hb.output.trans h1.output), Nat.le_trans h1.size (Nat.le_trans hb.size h2.size), fun k hk => ?_⟩
  by_cases e : k = b
  · subst e
    have h3 : (w.setCell ⟨k, 0, none⟩ (.int .i32 1)).heap[k]? = some (.cells #[.int .i32 1, .int .u32 0, .int .i64 size, v] 76 (0, 0)) := blk_put hM 0 _ rfl
    have h4 : w2.heap[k]? = some (.cells #[.int .i32 1, .int .u32 0, .int .i64 size, v] 76 (0, 0)) := (hb.block k hk).trans h3
    exact (blk_put h4 0 (.int .i32 0) rfl).trans hM.symm
  · exact (Below.heap_setCell w2 _ _ k e).trans ((hb.block k hk).trans (Below.heap_setCell w _ _ k e))
theorem set_size (w : World) (p : Addr) (u : Value) : (w.setCell p u).heap.size = w.heap.size := by simp [World.setCell]
theorem findI_lt (block : Int) : ∀ (es : List Ent) (i : Nat), findI block es i = -1 ∨ ∃ j, ∃ h : j < es.length, findI block es i = ((i + j : Nat) : Int) ∧ isText block es[j] = true
  | [], i => .inl rfl
  | x :: l, i => by
    unfold findI
    by_cases h : isText block x = true
    · rw [if_pos h]
      exact .inr ⟨0, by simp, by simp, h⟩
    · rw [if_neg h]
      rcases findI_lt block l (i + 1) with h1 | ⟨j, hj, h1, h2⟩
      · exact .inl h1
      · exact .inr ⟨j + 1, by simp; omega, by rw [h1]; omega, by simpa using h2⟩
def getE (es : List Ent) (block : Int) : Int := if findF es block < 0 then 4 else 0
def getS (es : List Ent) (block : Int) : ByteArray := if findF es block < 0 then ⟨#[]⟩ else (es.getD (findF es block).toNat Ent0).s
set_option maxHeartbeats 4000000 in
set_option maxRecDepth 100000 in
theorem Get_any (base b : Nat) (ok : Nat → Prop) (size : Int) (v : Value) (es : List Ent) (block : Int) (w : World) (hM : MemoAt w b size v) (hR : Kd.R kE 78 w base ok v es) (hok : ∀ k, ok k → k ≠ b) (hn : es.length ≤ 100000) :
    Calls Try.prog 23 #[.pointer (some ⟨b, 0, none⟩), .int .i64 block] w fun e w' => e = .returned (.tuple #[.string (getS es block), .int .i64 (getE es block)]) ∧ Below w.heap.size w w' := by
  have HR : Aside0 (Kd.R kE 78 (w.setCell ⟨b, 0, none⟩ (.int .i32 1)) base ok v es) := ⟨Kd.R_far hR (p := ⟨b, 0, none⟩) hok _⟩
  have HM := Aside0.mk hM
  have HS := Aside0.mk (set_size w ⟨b, 0, none⟩ (.int .i32 1))
  have hc : w.cell? ⟨b, 0, none⟩ = some (.int .i32 0) := (blk_cell hM 0).trans rfl
  have hf : w.frozen? ⟨b, 0, none⟩ = false := blk_frozen hM 0
  have hH : (w.setCell ⟨b, 0, none⟩ (.int .i32 1)).heap[b]? = some (.cells #[.int .i32 1, .int .u32 0, .int .i64 size, v] 76 (0, 0)) := blk_put hM 0 _ rfl
  have HH := Aside0.mk hH
  obtain ⟨A, c, rfl⟩ := Kd.R_slice hR
  clear hR hH
  go_enter_defers Try.func23, Try.ntmps23
  go_wp2_with (go_at_call 40; refine (lock_free muLib ⟨b, 0, none⟩ _ hc hf).mono ?_; rintro e w' ⟨rfl, rfl⟩)
  clear hc hf hM
  generalize hw1 : w.setCell ⟨b, 0, none⟩ (.int .i32 1) = w1 at *
  refine (find_any base b ok size _ es block _ HH.out HR.out hn).mono ?_
  rintro e w2 ⟨rfl, hb⟩
  have HB := Aside0.mk hb
  have HW1 := Aside0.mk hw1
  clear hb hw1
  have hl : w2.cell? ⟨b, 0, none⟩ = some (.int .i32 1) := (HB.out.cell (blk_lt HH.out)).trans ((blk_cell HH.out 0).trans rfl)
  have hfz : w2.frozen? ⟨b, 0, none⟩ = false := (HB.out.frozen (p := ⟨b, 0, none⟩) (blk_lt HH.out)).trans (blk_frozen HH.out 0)
  have HL := Aside0.mk (And.intro hl hfz)
  have HBW : Aside0 (Below w.heap.size w (w2.setCell ⟨b, 0, none⟩ (.int .i32 0))) := ⟨below_locked HM.out (by rw [HW1.out, ← HS.out]; exact HB.out)⟩
  clear hl hfz
  rcases findI_lt block es 0 with hneg | ⟨j, hj, hj2, _⟩
  · have hneg : findF es block = -1 := hneg
    have HE : Aside0 (getE es block = 4 ∧ getS es block = ⟨#[]⟩) := ⟨by rw [getE, getS, hneg]; exact ⟨rfl, rfl⟩⟩
    rw [hneg]
    clear hneg
    go_wp2_with fail
    refine leaves_cons (f := 41) (args := #[.pointer (some ⟨b, 0, none⟩)]) (by simp) (by simp [go_sem]) ?_
    refine (unlock_deferred muLib ⟨b, 0, none⟩ .returning _ HL.out.1 HL.out.2).mono ?_
    rintro e u' w'' ⟨rfl, rfl, rfl⟩
    exact ⟨_, results_tmp2 rfl _ _ _, by rw [HE.out.1, HE.out.2]; rfl, HBW.out⟩
  · have hj2 : findF es block = ((0 + j : Nat) : Int) := hj2
    rw [Nat.zero_add] at hj2
    have HE : Aside0 (getE es block = 0 ∧ getS es block = es[j].s) := ⟨by
      rw [getE, getS, hj2, if_neg (by omega), if_neg (by omega)]
      refine ⟨rfl, ?_⟩
      simp [List.getD_eq_getElem?_getD, List.getElem?_eq_getElem hj]⟩
    obtain ⟨g2, cap, hv, _, _, hg2, e0, e1, e2, e3⟩ := at_E HR.out j hj
    injection hv with hv1 hv2 hv3
    subst hv1 hv3
    have e3 := (HB.out.cell hg2).trans e3
    have hc3 : w2.cell? ⟨b, 3, none⟩ = some (.slice (some ⟨g2, 0, none⟩) es.length c) := (HB.out.cell (blk_lt HH.out)).trans ((blk_cell HH.out 3).trans rfl)
    have hjn : ¬ ((j : Int) < 0) := by omega
    rw [hj2]
    clear hj2 hjn e0 e1 e2
    go_wp2_with fail
    refine leaves_cons (f := 41) (args := #[.pointer (some ⟨b, 0, none⟩)]) (by simp) (by simp [go_sem]) ?_
    refine (unlock_deferred muLib ⟨b, 0, none⟩ .returning _ HL.out.1 HL.out.2).mono ?_
    rintro e u' w'' ⟨rfl, rfl, rfl⟩
    exact ⟨_, results_tmp2 rfl _ _ _, by rw [HE.out.1, HE.out.2]; rfl, HBW.out⟩
end Go.Proofs.Ytdadhificeplmaa

/- The iterator over free entries, at no entries; put into an empty memo. -/
set_option linter.unusedVariables false
set_option linter.unusedSimpArgs false
namespace Go.Proofs.Ytdadhificeplmaa
open Go.RowKit Go.Proofs.YtdadhificeplmaaW.PrintWords Go.Proofs.YtdadhificeplmaaW.PrintLast Go.Proofs.YtdadhificeplmaaW.PrintMore Go.Proofs.Cab
open Go.MuLone Go.Shelf
attribute [local go_sem] Oper.semAt_some
set_option maxHeartbeats 4000000 in
set_option maxRecDepth 100000 in
theorem frees1_empty (y : Value) (g b : Nat) (size : Int) (A : Option Addr) (c : Nat) (w : World) (hg : w.cell? ⟨g, 0, none⟩ = some (.pointer (some ⟨b, 0, none⟩))) (hM : memoHeld w b size (.slice A 0 c)) :
    Calls Try.prog 80 #[y, .pointer (some ⟨g, 0, none⟩)] w fun e w' => e = .returned (.tuple #[]) ∧ w' = w := by
  have hc : w.cell? ⟨b, 3, none⟩ = some (.slice A 0 c) := (blk_cell hM 3).trans rfl
  go_enter Try.func80, Try.ntmps80
  go_wp2_with fail
  go_loop [10] (fun v10 => v10 = .int .i64 0) (fun v10 => 0)
  case atStart => rfl
  case round =>
    subst hrel
    go_wp2_with fail
    go_end0
    exact ⟨rfl, rfl⟩
theorem frees_stops_empty (n g b : Nat) (size : Int) (A : Option Addr) (c : Nat) (w : World) (Kp : World → World → Prop) (hg : w.cell? ⟨g, 0, none⟩ = some (.pointer (some ⟨b, 0, none⟩))) (hM : memoHeld w b size (.slice A 0 c)) :
    SeqStopsK Fence.wide n Try.prog 80 #[.pointer (some ⟨g, 0, none⟩)] (fun i : Nat => #[.int .i64 (i : Int)]) Kp (fun xs => xs = []) (fun _ => False) 0 w := by
  intro l J Jx W hW _ _ _ h0
  refine callsIn_wide.2 ((frees1_empty _ g b size A c W ((hW.cell (World.block_lt_of_cell? w _ hg)).trans hg) ((hW.block b (blk_lt hM)).trans hM)).mono ?_)
  rintro e W' ⟨rfl, rfl⟩
  exact ⟨⟨_, rfl⟩, .inl ⟨[], rfl, h0⟩⟩
set_option maxHeartbeats 4000000 in
set_option maxRecDepth 100000 in
theorem end_any (base b : Nat) (ok : Nat → Prop) (size : Int) (v : Value) (w : World) (hM : memoHeld w b size v) (hR : Kd.R kE 78 w base ok v []) :
    Calls Try.prog 42 #[.pointer (some ⟨b, 0, none⟩)] w fun e w' => e = .returned (.int .i64 1) ∧ Below w.heap.size w w' := by
  obtain ⟨A, c, rfl⟩ := Kd.R_slice hR
  have hc : w.cell? ⟨b, 3, none⟩ = some (.slice A 0 c) := (blk_cell hM 3).trans rfl
  clear hR
  go_enter Try.func42, Try.ntmps42
  go_wp2_with fail
  go_ret
  exact ⟨rfl, Below.refl _ _⟩
theorem alloc_size (w : World) (o : Obj) : (w.alloc o).heap.size = w.heap.size + 1 := Array.size_push _
theorem blk_at_new {w : World} {o : Obj} {n : Nat} (h : w.heap.size = n) : (w.alloc o).heap[n]? = some o := h ▸ blk_new w o
def needsF (size n : Int) : Int := (n + 12 + size - 1) / size
theorem needs_le (size n : Int) (hz : 16 ≤ size) (h0 : 0 ≤ n) (h1 : n ≤ 2048) : 0 ≤ needsF size n ∧ needsF size n ≤ 4000 := by
  unfold needsF
  exact ⟨Int.ediv_nonneg (by omega) (by omega), Int.ediv_le_of_le_mul (by omega) (by omega)⟩
theorem needs_any (size n : Int) (w : World) (hz : 16 ≤ size ∧ size ≤ 256) (h0 : 0 ≤ n) (h1 : n ≤ 100000) : Calls Try.prog 33 #[.int .i64 size, .int .i64 n] w fun e w' => e = .returned (.int .i64 (needsF size n)) ∧ w = w' := by
  obtain ⟨z1, z2⟩ := hz
  have hne : ¬ size = 0 := by omega
  go_enter Try.func33, Try.ntmps33
  go_wp2_with fail
  go_ret
  exact ⟨rfl, rfl⟩
/-- A turn of what is no cells leaves the rows. -/
theorem R_put {w : World} {base : Nat} {ok : Nat → Prop} {v : Value} {es : List Ent} {D : Nat} {x : Option (List Deferred)} (h : Kd.R kE 78 w base ok v es) (hD : w.heap[D]? = some (.deferred x)) (o : Obj) : Kd.R kE 78 (w.putObj D o) base ok v es :=
  Kd.R_mono (Kd.R_move (Kd.R_bound h) (fun k hk => World.putObj_heap_other (fun e => by
    obtain ⟨_, _, _, q, _, cells, hc⟩ := hk
    rw [e, hD] at hc
    simp at hc))) (fun _ hk => hk.1)
section
variable {ops : Array Oper} {rest : List Oper} {o : Oper} {a : Act} {Q : Exit → Act → World → Prop}
/-- append(v, x), a row of entries; what is kept is told of the world with the box of x, too. -/
theorem appE {w0 W : World} (base : Nat) (hgd : o.guard = none) (s x : Operand) (ho : o.op = .call { callee := .builtin .append, args := #[s, x], argTypes := #[74, 74] })
    (v : Value) (es : List Ent) (y : Ent) (ok : Nat → Prop) (hs : a.eval s = v) (hx : a.eval x = .slice (some ⟨W.heap.size, 0, none⟩) 1 1) (HO : Kd.R kE 78 W base ok v es) (HB : Below base w0 W) (hbase : base ≤ W.heap.size) (hfresh : ∀ k, W.heap.size ≤ k → ok k) (hl : es.length < 1000000)
    (h : ∀ v1 w1, Kd.R kE 78 w1 base ok v1 (es ++ [y]) → Below base w0 w1 → (W.alloc (.cells #[.int .i64 y.b, .int .i64 y.n, .int .i64 y.k, .string y.s] 78)).grownBy w1 v.ownBlock → wpList Try.prog ops Q rest (a.put o.dst v1) w1) :
    wpList Try.prog ops Q (o :: rest) a (W.alloc (.cells #[.int .i64 y.b, .int .i64 y.n, .int .i64 y.k, .string y.s] 78)) := by
  obtain ⟨h0, inner, hown, hr⟩ := HO
  obtain ⟨i0, hi, hzz⟩ := Option.map_eq_some_iff.1 info78
  simp only [Prod.mk.injEq] at hzz
  obtain ⟨hz0, hz1, hz2⟩ := hzz
  refine wpList_append_own_at (W.alloc (.cells #[.int .i64 y.b, .int .i64 y.n, .int .i64 y.k, .string y.s] 78)) hgd s x 74 ho base 78 i0 _ 4 40 Try.underlying74 hi hz0 hz1 hz2 rfl (by decide) v es.length inner hs (hown.alloc _) ⟨W.heap.size, 0, none⟩ 1 1 [.int .i64 y.b, .int .i64 y.n, .int .i64 y.k, .string y.s] hx (by simp)
    (by simpa using World.news_of_block (cs := #[.int .i64 y.b, .int .i64 y.n, .int .i64 y.k, .string y.s]) (t := 78) (fr := (0, 0)) (heap_alloc_new W _)) (by simp [Value.oneCell']) (by simp only [maxLen]; omega) (by omega) (by simp; omega) ?_
  intro v1 w1 hown1 hg _ hat
  have hg2 := World.grownBy.trans (World.grownBy_alloc W (.cells #[.int .i64 y.b, .int .i64 y.n, .int .i64 y.k, .string y.s] 78) v.ownBlock) hg
  refine h v1 w1 (Kd.R_appended h0 hr (kE_mkM W base (fun _ => False) y) (fun _ hk => hk.elim) hfresh hown1 hg2 ?_) ((HB.alloc hbase _).grown hg (by simp; omega) (own_base hown)) hg
  rcases hat with hat | hat
  · exact .inl hat
  · exact .inr ⟨_, hat, by simp⟩
end
set_option maxHeartbeats 4000000 in
set_option maxRecDepth 100000 in
theorem frees_any (a : Option Addr) (w : World) : Calls Try.prog 64 #[.pointer a] w fun e w' => e = .returned (.func (.func 80) #[] #[.pointer (some ⟨w.heap.size, 0, none⟩)]) ∧ w' = w.alloc (.cells #[.pointer a] 28) := by
  go_enter Try.func64, Try.ntmps64
  go_wp2_with fail
  go_ret
  exact ⟨rfl, rfl⟩
theorem enters80 : ∀ args W, (callFunc 80 args).run Try.prog W = .ok (.enter 80 args) W := Go.Proofs.YtdadhificeplmaaW.PrintLast.enters_ Try.func80 (by kernel_rfl) rfl
/-- A memo whose lock is held, with its entries. -/
def HeldR (w : World) (base b : Nat) (ok : Nat → Prop) (size : Int) (es : List Ent) : Prop := ∃ v, memoHeld w b size v ∧ Kd.R kE 78 w base ok v es
set_option maxHeartbeats 4000000 in
set_option maxRecDepth 100000 in
theorem put_empty (base b : Nat) (ok : Nat → Prop) (size : Int) (s : ByteArray) (w : World) (hM : memoHeld w b size (.slice none 0 0)) (hok : ∀ k, ok k → k ≠ b) (hs : s.size ≤ 2048) (hz : 16 ≤ size ∧ size ≤ 256) (hfresh : ∀ k, w.heap.size ≤ k → ok k) (hb : base ≤ w.heap.size) (hbb : base ≤ b) :
    Calls Try.prog 45 #[.pointer (some ⟨b, 0, none⟩), .string s] w fun e w' => e = .returned (.tuple #[.int .i64 1, .bool true]) ∧ HeldR w' base b ok size [⟨1, needsF size s.size, 1, s⟩] ∧ Below base w w' := by
  have HM := Aside0.mk hM
  have HOK := Aside0.mk (And.intro hok hfresh)
  have HBS := Aside0.mk hb
  have HBB := Aside0.mk hbb
  have hlt := blk_lt hM
  clear hM hok hfresh
  refine (callsIn_wide (n := 5)).1 ?_
  refine callsIn_of_wp_marks Try.func45 rfl trivial ?_ rfl
  simp only [Try.ntmps45, List.size_toArray, List.length_cons, List.length_nil, Nat.reduceAdd, Nat.reduceSub, Array.replicate_succ, Array.replicate_zero, List.push_toArray, List.append_toArray, List.nil_append, List.cons_append]
  refine wpIn_wide.2 ?_
  go_wp2_with fail
  have HZ := Aside0.mk hz
  have HSS := Aside0.mk hs
  have HW : Aside0 (w.heap.size = w.heap.size) := ⟨rfl⟩
  obtain ⟨w4, hw4⟩ : ∃ w4, (((w.alloc (.cells #[.pointer (some ⟨b, 0, none⟩)] 28)).alloc (.cells #[.string s] 9)).alloc (.cells #[.int .i64 0] 3)).alloc (.cells #[.bool false] 4) = w4 := ⟨_, rfl⟩
  have hs4 : w4.heap.size = w.heap.size + 1 + 1 + 1 + 1 := by rw [← hw4]; simp only [alloc_size]
  have k0 : w4.cell? ⟨w.heap.size, 0, none⟩ = some (.pointer (some ⟨b, 0, none⟩)) := by rw [← hw4]; exact (blk_cell (blk_alloc (blk_alloc (blk_alloc (blk_new w _) _) _) _) 0).trans rfl
  have k1 : w4.cell? ⟨w.heap.size + 1, 0, none⟩ = some (.string s) := by rw [← hw4]; exact (blk_cell (blk_alloc (blk_alloc (blk_at_new (by simp only [alloc_size])) _) _) 0).trans rfl
  have k2 : w4.cell? ⟨b, 2, none⟩ = some (.int .i64 size) := by rw [← hw4]; exact (blk_cell (blk_alloc (blk_alloc (blk_alloc (blk_alloc HM.out _) _) _) _) 2).trans rfl
  obtain ⟨n, hn⟩ : ∃ n, needsF size s.size = n := ⟨_, rfl⟩
  have NE : Aside0 (∀ w, Calls Try.prog 33 #[.int .i64 size, .int .i64 (s.size : Int)] w fun e w' => e = .returned (.int .i64 n) ∧ w = w') := ⟨fun w => by rw [← hn]; exact needs_any size s.size w HZ.out (by omega) (by omega)⟩
  have HNN := Aside0.mk hn
  have HW4 := Aside0.mk hw4
  have HS4 := Aside0.mk hs4
  rw [hw4]
  have hx1 : ¬ w.heap.size = w4.heap.size := by omega
  have hx2 : ¬ w.heap.size + 1 = w4.heap.size := by omega
  have hx3 : ¬ b = w4.heap.size := by omega
  clear hw4 hn hs4 hz hs
  go_region_held3 (fun w' => w'.cell? ⟨w.heap.size, 0, none⟩ = some (.pointer (some ⟨b, 0, none⟩)) ∧ w'.cell? ⟨w.heap.size + 1, 0, none⟩ = some (.string s) ∧ w'.cell? ⟨b, 2, none⟩ = some (.int .i64 size)) (first | go_keep | (exact ⟨‹_›, ‹_›, ‹_›⟩)) (first | (go_at_call 33; refine (NE.out _).mono ?_; rintro e w' ⟨rfl, rfl⟩))
  all_goals
    obtain ⟨w5, hw5⟩ : ∃ w5, (w4.alloc (.cells #[.int .i64 n] 3)).drew = w5 := ⟨_, rfl⟩
    rename_i hHeld
    rw [hw5] at hHeld
    have hs5 : w5.heap.size = w.heap.size + 1 + 1 + 1 + 1 + 1 := by rw [← hw5]; show (w4.alloc _).heap.size = _; rw [alloc_size, HS4.out]
    obtain ⟨k0, k1, k2⟩ := hHeld
    have HW5 := Aside0.mk hw5
    have HS5 := Aside0.mk hs5
    rw [hw5]
    clear hw5 hs5 hx1 hx2 hx3
    go_wp2_with fail
    refine (frees_any _ _).mono ?_
    rintro e w6 ⟨rfl, hw6⟩
    have HW6 := Aside0.mk hw6
    clear hw6
    go_wp2_with fail
    have hz6 : w6.heap.size = w5.heap.size + 1 := by rw [HW6.out, alloc_size]
    have K5 : Aside0 (w6.heap[w5.heap.size]? = some (.cells #[.pointer (some ⟨b, 0, none⟩)] 28 (0, 0))) := ⟨by rw [HW6.out]; exact blk_new _ _⟩
    have M6 : Aside0 (memoHeld w6 b size (.slice none 0 0)) := ⟨by
      rw [HW6.out, ← HW5.out, ← HW4.out]
      exact blk_alloc (blk_drew (blk_alloc (blk_alloc (blk_alloc (blk_alloc (blk_alloc HM.out _) _) _) _) _)) _⟩
    have P0 : Aside0 (w6.heap[w.heap.size]? = some (.cells #[.pointer (some ⟨b, 0, none⟩)] 28 (0, 0))) := ⟨by
      rw [HW6.out, ← HW5.out, ← HW4.out]
      exact blk_alloc (blk_drew (blk_alloc (blk_alloc (blk_alloc (blk_alloc (blk_new w _) _) _) _) _)) _⟩
    have P1 : Aside0 (w6.heap[w.heap.size + 1]? = some (.cells #[.string s] 9 (0, 0))) := ⟨by
      rw [HW6.out, ← HW5.out, ← HW4.out]
      exact blk_alloc (blk_drew (blk_alloc (blk_alloc (blk_alloc (blk_at_new (by simp only [alloc_size])) _) _) _)) _⟩
    have P2 : Aside0 (w6.heap[w.heap.size + 1 + 1]? = some (.cells #[.int .i64 0] 3 (0, 0))) := ⟨by
      rw [HW6.out, ← HW5.out, ← HW4.out]
      exact blk_alloc (blk_drew (blk_alloc (blk_alloc (blk_at_new (by simp only [alloc_size])) _) _)) _⟩
    have P3 : Aside0 (w6.heap[w.heap.size + 1 + 1 + 1]? = some (.cells #[.bool false] 4 (0, 0))) := ⟨by
      rw [HW6.out, ← HW5.out, ← HW4.out]
      exact blk_alloc (blk_drew (blk_alloc (blk_at_new (by simp only [alloc_size])) _)) _⟩
    have P4 : Aside0 (w6.heap[w4.heap.size]? = some (.cells #[.int .i64 n] 3 (0, 0))) := ⟨by
      rw [HW6.out, ← HW5.out]
      exact blk_alloc (blk_drew (blk_new w4 _)) _⟩
    have HB6 : Aside0 (Below w.heap.size w w6) := ⟨by
      rw [HW6.out, ← HW5.out, ← HW4.out]
      exact below_alloc (below_drew (below_alloc (below_alloc (below_alloc (below_alloc (below_alloc (Below.refl _ _) _) _) _) _) _)) _⟩
    have HZ6 := Aside0.mk hz6
    clear hz6
    generalize hA : ({ tmps := _, defers := [] } : Act) = a0
    refine (wpIn_wide (n := 5)).1 ?_
    refine wpIn_rangeFunc_ownG (α := Nat) rfl (by decide) (gf := 80) (lb := #[.pointer (some ⟨w5.heap.size, 0, none⟩)]) (by rw [← hA]; rfl) trivial enters80
      (frees_stops_empty 4 w5.heap.size b size none 0 w6 (Below w6.heap.size) ((blk_cell K5.out 0).trans rfl) M6.out) (fun h k => h.trans k) (fun W l o o' hl hw h1 h2 => belowK_b (Nat.le_refl _) W l o o' hl hw h1 h2) (Below.refl _ _) (fun _ => rfl)
      (fun pre W => Below w6.heap.size w6 W) (fun _ _ _ => False) (ownFrom_below (Nat.le_refl _) (Nat.le_refl _)) (fun _ => fun _ _ _ _ h _ _ => h) (Below.refl _ _)
      (fun x => { tmps := (a0.tmps.setIfInBounds 20 (.int .i64 (x : Int))).setIfInBounds 7 (.int .i64 (x : Int)), defers := [] }) ?assign ?body ?done ?stop
    case assign =>
      intro l x W K hK
      rw [← hA] at hK ⊢
      gi_wp2
      exact hK
    case body =>
      rintro l pre x W _ h
      exact absurd h (Nat.not_lt_zero _)
    case stop =>
      rintro D cc pre W hD h
      exact h.elim
    case done =>
      rintro D xs W hD _ hB hK
      rw [← hA]
      clear hA
      have hbw := below_step HB6.out hB
      have HBW := Aside0.mk hbw
      have HKD := Aside0.mk hK
      have HDD := Aside0.mk hD
      have MW := Aside0.mk (blk_below M6.out hB)
      have Q0 := Aside0.mk (blk_below P0.out hB)
      have Q1 := Aside0.mk (blk_below P1.out hB)
      have Q2 := Aside0.mk (blk_below P2.out hB)
      have Q3 := Aside0.mk (blk_below P3.out hB)
      have Q4 := Aside0.mk (blk_below P4.out hB)
      have q0 : W.cell? ⟨w.heap.size, 0, none⟩ = some (.pointer (some ⟨b, 0, none⟩)) := (blk_cell Q0.out 0).trans rfl
      clear hB hK hD hbw
      go_wp2_with fail
      refine (end_any base b ok size _ W MW.out (Kd.R_nil _ _ _ _ _)).mono ?_
      rintro e w7 ⟨rfl, hB⟩
      have q0 : w7.cell? ⟨w.heap.size, 0, none⟩ = some (.pointer (some ⟨b, 0, none⟩)) := (blk_cell (blk_below Q0.out hB) 0).trans rfl
      have q1 : w7.cell? ⟨w.heap.size + 1, 0, none⟩ = some (.string s) := (blk_cell (blk_below Q1.out hB) 0).trans rfl
      have q4 : w7.cell? ⟨w4.heap.size, 0, none⟩ = some (.int .i64 n) := (blk_cell (blk_below Q4.out hB) 0).trans rfl
      have q3 : w7.cell? ⟨b, 3, none⟩ = some (.slice none 0 0) := (blk_cell (blk_below MW.out hB) 3).trans rfl
      have HB7 := Aside0.mk hB
      have hn1 : 0 ≤ n ∧ n ≤ 4000 := by rw [← HNN.out]; exact needs_le size s.size HZ.out.1 (by omega) (by have := HSS.out; omega)
      obtain ⟨n1, n2⟩ := hn1
      clear hB
      go_wp2_with fail
      refine wp_region_segs (by kernel_rfl) [(false, [5, 0, 1, 2, 3, 4, 6, 7, 8, 9]), (true, [10]), (false, [11, 12, 13])] (by decide) (by kernel_rfl) ?_
      simp only [wpSegs, pickOps, List.getElem?_toArray, List.getElem?_cons_succ, List.getElem?_cons_zero, Bool.false_eq_true, false_implies, true_and, forall_const]
      go_wp2_with (at_builtin; refine appE (w0 := w) (W := w7.drew) base (by rfl) _ _ (by rfl) (.slice none 0 0) [] ⟨1, n, 1, s⟩ ok (by rfl) (by rfl) (Kd.R_nil _ _ _ _ _) (((below_step HBW.out HB7.out).mono HBS.out).drew) (Nat.le_trans HBS.out (below_step HBW.out HB7.out).size) (fun k hk => HOK.out.2 k (Nat.le_trans (below_step HBW.out HB7.out).size hk)) (by simp) ?_; intro v8 w8 ho hb hg; have HO8 := Aside0.mk ho; have HB8 := Aside0.mk hb; have HG8 := Aside0.mk hg; clear ho hb hg)
      have hg8 : ∀ {k : Nat} {o : Obj}, w7.heap[k]? = some o → w8.heap[k]? = some o := fun h => blk_grown (blk_alloc (blk_drew h) _) HG8.out (by simp [Value.ownBlock])
      have M8 := Aside0.mk (hg8 (blk_below MW.out HB7.out))
      have R2 := Aside0.mk (hg8 (blk_below Q2.out HB7.out))
      have R3 := Aside0.mk (hg8 (blk_below Q3.out HB7.out))
      have D8 := Aside0.mk (hg8 (blk_below HKD.out HB7.out))
      have hbD : ¬ D = b := fun e => by
        have h1 := D8.out
        rw [e] at h1
        have h2 := M8.out
        rw [h1] at h2
        simp at h2
      have HBD := Aside0.mk hbD
      obtain ⟨A8, c8, rfl⟩ := Kd.R_slice HO8.out
      have hc8 : w8.cell? ⟨b, 3, none⟩ = some (.slice none 0 0) := (blk_cell M8.out 3).trans rfl
      have hf8 : w8.frozen? ⟨b, 3, none⟩ = false := blk_frozen M8.out 3
      have r2 : w8.cell? ⟨w.heap.size + 1 + 1, 0, none⟩ = some (.int .i64 0) := (blk_cell R2.out 0).trans rfl
      have r3 : w8.cell? ⟨w.heap.size + 1 + 1 + 1, 0, none⟩ = some (.bool false) := (blk_cell R3.out 0).trans rfl
      have f2 : w8.frozen? ⟨w.heap.size + 1 + 1, 0, none⟩ = false := blk_frozen R2.out 0
      have f3 : w8.frozen? ⟨w.heap.size + 1 + 1 + 1, 0, none⟩ = false := blk_frozen R3.out 0
      have d1 : ¬ b = w.heap.size + 1 + 1 := by omega
      have d2 : ¬ b = w.heap.size + 1 + 1 + 1 := by omega
      have d3 : ¬ w.heap.size + 1 + 1 = b := by omega
      have d4 : ¬ w.heap.size + 1 + 1 + 1 = b := by omega
      clear q0 q1 q3 q4 hg8 hbD
      refine ⟨fun k hk => HG8.out.block k hk (by simp [Value.ownBlock]), ?_⟩
      go_wp2_with fail
      refine ⟨rfl, by kernel_rfl, ?_⟩
      go_wp2_with fail
      clear hc8 hf8 r2 r3 f2 f3
      have hD2 : ¬ w.heap.size + 1 + 1 = D := fun e => by have h1 := R2.out; rw [e, D8.out] at h1; simp at h1
      have hD3 : ¬ w.heap.size + 1 + 1 + 1 = D := fun e => by have h1 := R3.out; rw [e, D8.out] at h1; simp at h1
      have hDb := HBD.out
      have D11 : ((((w8.setCell ⟨b, 3, none⟩ (.slice A8 1 c8)).setCell ⟨w.heap.size + 1 + 1, 0, none⟩ (.int .i64 1)).setCell ⟨w.heap.size + 1 + 1 + 1, 0, none⟩ (.bool true))).heap[D]? = some (.deferred (some [])) :=
        (Below.heap_setCell _ _ _ D (fun e => hD3 e.symm)).trans ((Below.heap_setCell _ _ _ D (fun e => hD2 e.symm)).trans ((Below.heap_setCell _ _ _ D hDb).trans D8.out))
      have X2 : ((((w8.setCell ⟨b, 3, none⟩ (.slice A8 1 c8)).setCell ⟨w.heap.size + 1 + 1, 0, none⟩ (.int .i64 1)).setCell ⟨w.heap.size + 1 + 1 + 1, 0, none⟩ (.bool true))).heap[w.heap.size + 1 + 1]? = some (.cells #[.int .i64 1] 3 (0, 0)) :=
        blk_far (blk_put (blk_far R2.out (by show ¬ w.heap.size + 1 + 1 = b; exact d3) _) 0 _ rfl) (by simp) _
      have X3 : ((((w8.setCell ⟨b, 3, none⟩ (.slice A8 1 c8)).setCell ⟨w.heap.size + 1 + 1, 0, none⟩ (.int .i64 1)).setCell ⟨w.heap.size + 1 + 1 + 1, 0, none⟩ (.bool true))).heap[w.heap.size + 1 + 1 + 1]? = some (.cells #[.bool true] 4 (0, 0)) :=
        blk_put (blk_far (blk_far R3.out (by show ¬ w.heap.size + 1 + 1 + 1 = b; exact d4) _) (by simp) _) 0 _ rfl
      have XM : ((((w8.setCell ⟨b, 3, none⟩ (.slice A8 1 c8)).setCell ⟨w.heap.size + 1 + 1, 0, none⟩ (.int .i64 1)).setCell ⟨w.heap.size + 1 + 1 + 1, 0, none⟩ (.bool true))).heap[b]? = some (.cells #[.int .i32 1, .int .u32 0, .int .i64 size, .slice A8 1 c8] 76 (0, 0)) :=
        blk_far (blk_far (blk_put M8.out 3 _ rfl) (by show ¬ b = w.heap.size + 1 + 1; exact d1) _) (by show ¬ b = w.heap.size + 1 + 1 + 1; exact d2) _
      have XR : Kd.R kE 78 ((((w8.setCell ⟨b, 3, none⟩ (.slice A8 1 c8)).setCell ⟨w.heap.size + 1 + 1, 0, none⟩ (.int .i64 1)).setCell ⟨w.heap.size + 1 + 1 + 1, 0, none⟩ (.bool true))) base ok (.slice A8 1 c8) [⟨1, n, 1, s⟩] :=
        Kd.R_set (Kd.R_set (Kd.R_far HO8.out (p := ⟨b, 3, none⟩) HOK.out.1 _) (blk_far R2.out (by show ¬ w.heap.size + 1 + 1 = b; exact d3) _) (by simp [kE, Kd.iso, Kd.pair, Kd.int, Kd.string, Kd.scalar]) 0 _) (blk_far (blk_far R3.out (by show ¬ w.heap.size + 1 + 1 + 1 = b; exact d4) _) (by simp) _) (by simp [kE, Kd.iso, Kd.pair, Kd.int, Kd.string, Kd.scalar]) 0 _
      have XB : Below base w ((((w8.setCell ⟨b, 3, none⟩ (.slice A8 1 c8)).setCell ⟨w.heap.size + 1 + 1, 0, none⟩ (.int .i64 1)).setCell ⟨w.heap.size + 1 + 1 + 1, 0, none⟩ (.bool true))) :=
        ((HB8.out.setCell (p := ⟨b, 3, none⟩) HBB.out _).setCell (p := ⟨w.heap.size + 1 + 1, 0, none⟩) (by have := HBS.out; show base ≤ w.heap.size + 1 + 1; omega) _).setCell (p := ⟨w.heap.size + 1 + 1 + 1, 0, none⟩) (by have := HBS.out; show base ≤ w.heap.size + 1 + 1 + 1; omega) _
      generalize ((((w8.setCell ⟨b, 3, none⟩ (.slice A8 1 c8)).setCell ⟨w.heap.size + 1 + 1, 0, none⟩ (.int .i64 1)).setCell ⟨w.heap.size + 1 + 1 + 1, 0, none⟩ (.bool true))) = w9 at *
      refine ⟨by simp, .inl ⟨_, _, rfl, run_takeDeferred D11, ?_⟩⟩
      have c2 : (w9.putObj D (.deferred none)).cell? ⟨w.heap.size + 1 + 1, 0, none⟩ = some (.int .i64 1) := (blk_cell ((World.putObj_heap_other hD2).trans X2) 0).trans rfl
      have c3 : (w9.putObj D (.deferred none)).cell? ⟨w.heap.size + 1 + 1 + 1, 0, none⟩ = some (.bool true) := (blk_cell ((World.putObj_heap_other hD3).trans X3) 0).trans rfl
      refine ⟨.tuple #[.int .i64 1, .bool true], by simp [results, Try.results45, go_sem, c2, c3], rfl, ⟨.slice A8 1 c8, (World.putObj_heap_other (fun e => hDb e.symm)).trans XM, ?_⟩, ?_⟩
      · rw [HNN.out]
        exact R_put XR D11 _
      · exact XB.trans (belowK_b (w := w6) (by have := HBS.out; have := HB6.out.size; omega) _ D _ _ HDD.out D11 rfl rfl)
end Go.Proofs.Ytdadhificeplmaa

/- Needs, New, Put into an empty memo; known. -/
set_option linter.unusedVariables false
set_option linter.unusedSimpArgs false
namespace Go.Proofs.Ytdadhificeplmaa
open Go.RowKit Go.Proofs.YtdadhificeplmaaW.PrintWords Go.Proofs.YtdadhificeplmaaW.PrintLast Go.Proofs.YtdadhificeplmaaW.PrintMore Go.Proofs.Cab
open Go.MuLone
def sizeB (n : Int) : Bool := decide (16 ≤ n) && (decide (n ≤ 256) && decide (n % 16 = 0))
theorem wrap_id {x : Int} (h0 : -9223372036854775808 ≤ x) (h1 : x ≤ 9223372036854775807) : wrap64 x = x := by unfold wrap64; omega
theorem sizeB_iff {n : Int} : sizeB n = true ↔ (16 ≤ n ∧ n ≤ 256) ∧ n % 16 = 0 := by
  unfold sizeB
  simp only [Bool.and_eq_true, decide_eq_true_eq]
  constructor
  · rintro ⟨h1, h2, h3⟩; exact ⟨⟨h1, h2⟩, h3⟩
  · rintro ⟨⟨h1, h2⟩, h3⟩; exact ⟨h1, h2, h3⟩
theorem isSize_f (n : Int) : PAll.memo_isSize.f n = some (sizeB n) := by
  unfold PAll.memo_isSize.f sizeB
  by_cases h : 16 ≤ n
  · rw [if_pos (by omega), decide_eq_true h]
    by_cases h2 : n ≤ 256
    · rw [if_pos h2, decide_eq_true h2, Int.tmod_eq_emod_of_nonneg (by omega)]
      simp
      rfl
    · rw [if_neg h2, decide_eq_false h2]; rfl
  · rw [if_neg (by omega), decide_eq_false h]; rfl
theorem isSizeR_f (n : Int) : PAll.cabinetryref04_isSize.f n = some (sizeB n) := by
  unfold PAll.cabinetryref04_isSize.f sizeB
  by_cases h : 16 ≤ n
  · rw [if_pos (by omega), decide_eq_true h]
    by_cases h2 : n ≤ 256
    · rw [if_pos h2, decide_eq_true h2, Int.tmod_eq_emod_of_nonneg (by omega)]
      simp
      rfl
    · rw [if_neg h2, decide_eq_false h2]; rfl
  · rw [if_neg (by omega), decide_eq_false h]; rfl
theorem isSize_any (n : Int) (w : World) : Calls Try.prog 32 #[.int .i64 n] w fun e w' => e = .returned (.bool (sizeB n)) ∧ Drawn0 w w' := PAll.memo_isSize.calls n _ w (isSize_f n)
theorem needs_f (size n : Int) (hz : 16 ≤ size ∧ size ≤ 256) (h0 : 0 ≤ n) (h1 : n ≤ 2048) : PAll.memo_needs.f size n = some (needsF size n) := by
  have hb := needs_le size n hz.1 h0 h1
  unfold PAll.memo_needs.f
  rw [if_neg (by omega), wrap_id (x := n + 12) (by omega) (by omega), wrap_id (x := n + 12 + size) (by omega) (by omega), wrap_id (x := n + 12 + size - 1) (by omega) (by omega), Int.tdiv_eq_ediv_of_nonneg (by omega)]
  exact congrArg some (wrap_id (x := needsF size n) (by omega) (by omega))
theorem needsR_f (size n : Int) (hz : 16 ≤ size ∧ size ≤ 256) (h0 : 0 ≤ n) (h1 : n ≤ 2048) : PAll.cabinetryref04_needs.f size n = some (needsF size n) := by
  have hb := needs_le size n hz.1 h0 h1
  unfold PAll.cabinetryref04_needs.f
  rw [if_neg (by omega), wrap_id (x := n + 12) (by omega) (by omega), wrap_id (x := n + 12 + size) (by omega) (by omega), wrap_id (x := n + 12 + size - 1) (by omega) (by omega), Int.tdiv_eq_ediv_of_nonneg (by omega)]
  exact congrArg some (wrap_id (x := needsF size n) (by omega) (by omega))
def needsP (size n : Int) : Int × Int := if sizeB size = true then (if n < 0 then (0, 1) else if n > 2048 then (0, 1) else (needsF size n, 0)) else (0, 1)
theorem Needs_f (size n : Int) : PAll.memo_Needs.f size n = some ((needsP size n).1, (needsP size n).2) := by
  rw [PAll.memo_Needs.f, isSize_f, Option.bind_some]
  unfold needsP
  by_cases h : sizeB size = true
  · rw [if_pos h, if_pos h]
    by_cases h1 : n < 0
    · rw [if_pos h1, if_pos h1]
    · rw [if_neg h1, if_neg h1]
      by_cases h2 : n > 2048
      · rw [if_pos h2, if_pos h2]
      · rw [if_neg h2, if_neg h2, needs_f size n (sizeB_iff.1 h).1 (by omega) (by omega)]
        rfl
  · rw [if_neg h, if_neg h]
theorem NeedsR_f (size n : Int) : PAll.cabinetryref04_Needs.f size n = some ((needsP size n).1, (needsP size n).2) := by
  rw [PAll.cabinetryref04_Needs.f, isSizeR_f, Option.bind_some]
  unfold needsP
  by_cases h : sizeB size = true
  · rw [if_pos h, if_pos h]
    by_cases h1 : n < 0
    · rw [if_pos h1, if_pos h1]
    · rw [if_neg h1, if_neg h1]
      by_cases h2 : n > 2048
      · rw [if_pos h2, if_pos h2]
      · rw [if_neg h2, if_neg h2, needsR_f size n (sizeB_iff.1 h).1 (by omega) (by omega)]
        rfl
  · rw [if_neg h, if_neg h]
theorem Needs_any (size n : Int) (w : World) : Calls Try.prog 9 #[.int .i64 size, .int .i64 n] w fun e w' => e = .returned (.tuple #[.int .i64 (needsP size n).1, .int .i64 (needsP size n).2]) ∧ Below w.heap.size w w' :=
  (PAll.memo_Needs.calls size n _ _ w (Needs_f size n)).mono fun e w' ⟨he, m, hm⟩ => ⟨he, hm ▸ pw_below_drewN (Below.refl _ _) m⟩
theorem NeedsR_any (size n : Int) (w : World) : Calls Try.prog 10 #[.int .i64 size, .int .i64 n] w fun e w' => e = .returned (.tuple #[.int .i64 (needsP size n).1, .int .i64 (needsP size n).2]) ∧ Below w.heap.size w w' :=
  (PAll.cabinetryref04_Needs.calls size n _ _ w (NeedsR_f size n)).mono fun e w' ⟨he, m, hm⟩ => ⟨he, hm ▸ pw_below_drewN (Below.refl _ _) m⟩
set_option maxHeartbeats 4000000 in
set_option maxRecDepth 100000 in
theorem New_ok (size : Int) (w : World) (hz : sizeB size = true) : Calls Try.prog 19 #[.int .i64 size] w fun e w' => ∃ b, e = .returned (.tuple #[.pointer (some ⟨b, 0, none⟩), .int .i64 0]) ∧ w.heap.size ≤ b ∧ MemoAt w' b size (.slice none 0 0) ∧ Below w.heap.size w w' := by
  have HZ := Aside0.mk hz
  clear hz
  go_enter Try.func19, Try.ntmps19
  go_wp2_with fail
  refine (isSize_any size _).mono ?_
  rintro e w1 ⟨rfl, m, rfl⟩
  rw [HZ.out]
  go_wp2_with fail
  go_ret2
  exact ⟨_, rfl, by simp, blk_new _ _, below_alloc (pw_below_drewN (Below.refl _ _) _) _⟩
set_option maxHeartbeats 4000000 in
set_option maxRecDepth 100000 in
theorem New_no (size : Int) (w : World) (hz : sizeB size = false) : Calls Try.prog 19 #[.int .i64 size] w fun e w' => e = .returned (.tuple #[.pointer none, .int .i64 1]) ∧ Below w.heap.size w w' := by
  have HZ := Aside0.mk hz
  clear hz
  go_enter Try.func19, Try.ntmps19
  go_wp2_with fail
  refine (isSize_any size _).mono ?_
  rintro e w1 ⟨rfl, m, rfl⟩
  rw [HZ.out]
  go_wp2_with fail
  go_ret2
  exact ⟨rfl, pw_below_drewN (Below.refl _ _) _⟩
set_option maxHeartbeats 4000000 in
set_option maxRecDepth 100000 in
theorem Put_empty (base b : Nat) (ok : Nat → Prop) (size : Int) (s : ByteArray) (w : World) (hM : MemoAt w b size (.slice none 0 0)) (hok : ∀ k, ok k → k ≠ b) (hs : s.size ≤ 2048) (hz : 16 ≤ size ∧ size ≤ 256) (hfresh : ∀ k, w.heap.size ≤ k → ok k) (hb : base ≤ w.heap.size) (hbb : base ≤ b) :
    Calls Try.prog 20 #[.pointer (some ⟨b, 0, none⟩), .string s] w fun e w' => e = .returned (.tuple #[.int .i64 1, .int .i64 0]) ∧ (∃ v', MemoAt w' b size v' ∧ Kd.R kE 78 w' base ok v' [⟨1, needsF size s.size, 1, s⟩]) ∧ Below base w w' := by
  have HM := Aside0.mk hM
  have HOK := Aside0.mk hok
  have HFR := Aside0.mk hfresh
  have HBS := Aside0.mk hb
  have HBB := Aside0.mk hbb
  have HZ := Aside0.mk hz
  have HSS := Aside0.mk hs
  have hsb : decide ((s.size : Int) > 2048) = false := by simp; omega
  have hc : w.cell? ⟨b, 0, none⟩ = some (.int .i32 0) := (blk_cell hM 0).trans rfl
  have hf : w.frozen? ⟨b, 0, none⟩ = false := blk_frozen hM 0
  clear hok hfresh hb hbb hz
  go_enter_defers Try.func20, Try.ntmps20
  go_wp2_with (go_at_call 40; refine (lock_free muLib ⟨b, 0, none⟩ _ hc hf).mono ?_; rintro e w' ⟨rfl, rfl⟩)
  have HH : Aside0 (memoHeld (w.setCell ⟨b, 0, none⟩ (.int .i32 1)) b size (.slice none 0 0)) := ⟨blk_put hM 0 _ rfl⟩
  have HB1 : Aside0 (Below base w (w.setCell ⟨b, 0, none⟩ (.int .i32 1))) := ⟨(Below.refl base w).setCell HBB.out _⟩
  have hsz := set_size w ⟨b, 0, none⟩ (.int .i32 1)
  have HF1 : Aside0 ((∀ k, (w.setCell ⟨b, 0, none⟩ (.int .i32 1)).heap.size ≤ k → ok k) ∧ base ≤ (w.setCell ⟨b, 0, none⟩ (.int .i32 1)).heap.size) := ⟨by rw [hsz]; exact ⟨HFR.out, HBS.out⟩⟩
  clear hc hf hM hsz
  generalize w.setCell ⟨b, 0, none⟩ (.int .i32 1) = w1 at *
  refine (put_empty base b ok size s w1 HH.out HOK.out HSS.out HZ.out HF1.out.1 HF1.out.2 HBB.out).mono ?_
  rintro e w2 ⟨rfl, ⟨v', hM2, hR2⟩, hb2⟩
  have HM2 := Aside0.mk hM2
  have HR2 := Aside0.mk hR2
  have HB2 := Aside0.mk (HB1.out.trans hb2)
  clear hM2 hR2 hb2
  go_wp2_with fail
  refine leaves_cons (f := 41) (args := #[.pointer (some ⟨b, 0, none⟩)]) (by simp) (by simp [go_sem]) ?_
  refine (unlock_deferred muLib ⟨b, 0, none⟩ .returning _ ((blk_cell HM2.out 0).trans rfl) (blk_frozen HM2.out 0)).mono ?_
  rintro e u' w'' ⟨rfl, rfl, rfl⟩
  exact ⟨_, results_tmp2 rfl _ _ _, rfl, ⟨v', blk_put HM2.out 0 _ rfl, Kd.R_far HR2.out (p := ⟨b, 0, none⟩) HOK.out _⟩, HB2.out.setCell (p := ⟨b, 0, none⟩) HBB.out _⟩
theorem k_needs1 : needsP 16 4 = (1, 0) := by decide
theorem k_needs2 : needsP 16 5 = (2, 0) := by decide
theorem k_size : sizeB 16 = true := by decide
theorem k_get : getE [⟨1, needsF 16 1, 1, ⟨#[97]⟩⟩] 1 = 0 ∧ getS [⟨1, needsF 16 1, 1, ⟨#[97]⟩⟩] 1 = ⟨#[97]⟩ := by
  constructor <;> rfl
set_option maxHeartbeats 4000000 in
set_option maxRecDepth 100000 in
theorem known_any (w : World) : Calls Try.prog 11 #[] w fun e w' => e = .returned (.bool true) ∧ Below w.heap.size w w' := by
  go_enter Try.func11, Try.ntmps11
  go_wp2_with fail
  refine (Needs_any 16 4 _).mono ?_
  rintro e w1 ⟨rfl, hb⟩
  rw [k_needs1]
  have HB1 := Aside0.mk hb
  clear hb
  go_wp2_with fail
  refine (Needs_any 16 5 _).mono ?_
  rintro e w2 ⟨rfl, hb⟩
  rw [k_needs2]
  have HB2 := Aside0.mk (below_step HB1.out hb)
  clear hb
  go_wp2_with fail
  refine (New_ok 16 _ k_size).mono ?_
  rintro e w3 ⟨b, rfl, hb0, hM, hb⟩
  have HM := Aside0.mk hM
  have HB3 := Aside0.mk (below_step HB2.out hb)
  have HBB : Aside0 (w.heap.size ≤ b) := ⟨Nat.le_trans HB2.out.size hb0⟩
  clear hb hb0 hM
  go_wp2_with fail
  refine (Put_empty w.heap.size b (fun k => k ≠ b) 16 ⟨#[97]⟩ w3 HM.out (fun _ h => h) (by decide) (by decide) (fun k hk => by have := blk_lt HM.out; omega) HB3.out.size HBB.out).mono ?_
  rintro e w4 ⟨rfl, ⟨v, hM, hR⟩, hb⟩
  have HM4 := Aside0.mk hM
  have HR4 := Aside0.mk hR
  have HB4 := Aside0.mk (HB3.out.trans hb)
  clear hb hM hR
  go_wp2_with fail
  refine (Get_any w.heap.size b (fun k => k ≠ b) 16 v _ 1 w4 HM4.out HR4.out (fun _ h => h) (by simp)).mono ?_
  rintro e w5 ⟨rfl, hb⟩
  have hk := k_get
  rw [show (((⟨#[97]⟩ : ByteArray).size : Nat) : Int) = 1 from rfl, hk.1, hk.2]
  have HB5 := Aside0.mk (HB4.out.trans (hb.mono HB4.out.size))
  clear hb hk
  go_wp2_with fail
  go_ret
  exact ⟨rfl, HB5.out⟩
end Go.Proofs.Ytdadhificeplmaa

/- Numbers of bytes: get, put. -/
set_option linter.unusedVariables false
set_option linter.unusedSimpArgs false
namespace Go.Proofs.Ytdadhificeplmaa
open Go.RowKit Go.Proofs.YtdadhificeplmaaW.PrintWords Go.Proofs.YtdadhificeplmaaW.PrintLast Go.Proofs.YtdadhificeplmaaW.PrintMore Go.Proofs.Cab
/-- The number of some bytes, the lowest one first. -/
def leV : List Int → Int
  | [] => 0
  | x :: l => x + 256 * leV l
/-- The bytes of a number, the lowest one first. -/
def leB : Nat → Int → List Int
  | 0, _ => []
  | d + 1, n => n % 256 :: leB d (n / 256)
theorem leB_length : ∀ (d : Nat) (n : Int), (leB d n).length = d
  | 0, _ => rfl
  | d + 1, n => by rw [leB, List.length_cons, leB_length d]
theorem leB_byte : ∀ (d : Nat) (n : Int), ∀ x ∈ leB d n, 0 ≤ x ∧ x ≤ 255
  | 0, _, x, h => by simp [leB] at h
  | d + 1, n, x, h => by
    rw [leB, List.mem_cons] at h
    rcases h with h | h
    · omega
    · exact leB_byte d _ x h
theorem mod_split (n p : Int) (hp : 0 < p) : n % 256 + 256 * (n / 256 % p) = n % (256 * p) := by
  have h1 := Int.emod_add_mul_ediv n 256
  have h2 := Int.emod_add_mul_ediv (n / 256) p
  have h3 := Int.emod_nonneg (n / 256) (by omega : p ≠ 0)
  have h4 := Int.emod_lt_of_pos (n / 256) hp
  have h5 := Int.emod_nonneg n (by decide : (256 : Int) ≠ 0)
  have h6 := Int.emod_lt_of_pos n (by decide : (0 : Int) < 256)
  have key : n = (n % 256 + 256 * (n / 256 % p)) + (256 * p) * (n / 256 / p) := by
    calc n = n % 256 + 256 * (n / 256) := h1.symm
      _ = n % 256 + 256 * (n / 256 % p + p * (n / 256 / p)) := by rw [h2]
      _ = _ := by rw [Int.mul_add, ← Int.add_assoc, Int.mul_assoc]
  conv => rhs; rw [key]
  rw [Int.add_mul_emod_self_left]
  refine (Int.emod_eq_of_lt (by omega) ?_).symm
  have : n / 256 % p ≤ p - 1 := by omega
  omega
theorem leV_leB : ∀ (d : Nat) (n : Int), 0 ≤ n → leV (leB d n) = n % 256 ^ d
  | 0, n, h => by simp [leB, leV]
  | d + 1, n, h => by
    rw [leB, leV, leV_leB d (n / 256) (by omega), Int.pow_succ, Int.mul_comm (256 ^ d) 256]
    exact mod_split n (256 ^ d) (Int.pow_pos (by decide))
theorem leV_snoc : ∀ (l : List Int) (x : Int), leV (l ++ [x]) = leV l + x * 256 ^ l.length
  | [], x => by simp [leV]
  | y :: l, x => by
    rw [List.cons_append, leV, leV, leV_snoc l x, List.length_cons, Int.pow_succ]
    rw [Int.mul_add, Int.add_assoc]
    congr 1
    rw [← Int.mul_assoc, Int.mul_comm 256 x, Int.mul_assoc, Int.mul_comm 256 (256 ^ l.length)]
theorem leV_bd : ∀ (l : List Int), (∀ x ∈ l, 0 ≤ x ∧ x ≤ 255) → 0 ≤ leV l ∧ leV l < 256 ^ l.length
  | [], _ => by simp [leV]
  | x :: l, h => by
    have h1 := h x List.mem_cons_self
    have h2 := leV_bd l (fun y hy => h y (List.mem_cons_of_mem _ hy))
    rw [leV, List.length_cons, Int.pow_succ]
    generalize (256 : Int) ^ l.length = p at *
    omega
theorem or_comm (k : IntKind) (x y : Int) : Go.bits .or k x y = Go.bits .or k y x := by simp only [Go.bits, BitVec.or_comm]
theorem wraps_i64 (n : Int) (h0 : 0 ≤ n) (h1 : n < 2 ^ 62) : IntKind.i64.wrap n = n := by rw [Go.IntKind.wrap_i64]; omega
theorem p256 (j : Nat) (hj : j ≤ 3) : (256 : Int) ^ j ≤ 256 ^ 3 := by
  match j, hj with
  | 0, _ => exact of_decide_eq_true rfl
  | 1, _ => exact of_decide_eq_true rfl
  | 2, _ => exact of_decide_eq_true rfl
  | 3, _ => exact of_decide_eq_true rfl
theorem or_step (acc x : Int) (j : Nat) (hj : j ≤ 3) (h0 : 0 ≤ acc) (h1 : acc < 256 ^ j) (hx : 0 ≤ x ∧ x ≤ 255) : Go.bits .or .i64 acc (shl .i64 (wrap64 x) (wrap64 (8 * (j : Int)))) = acc + x * 256 ^ j := by
  rw [wrap_id (x := x) (by omega) (by omega), wrap_id (x := 8 * (j : Int)) (by omega) (by omega), or_comm, Int.add_comm]
  have e : shl .i64 x (8 * (j : Int)) = x * 256 ^ j := by
    unfold shl
    have : (8 * (j : Int)).toNat = 8 * j := by omega
    rw [this, Nat.min_eq_left (by show 8 * j ≤ 64; omega), Int.pow_mul, show (2 : Int) ^ 8 = 256 from rfl]
    refine wraps_i64 _ (Int.mul_nonneg hx.1 (Int.le_of_lt (Int.pow_pos (by decide)))) ?_
    have hp : (256 : Int) ^ j ≤ 256 ^ 3 := p256 j hj
    have : x * 256 ^ j ≤ 255 * 256 ^ 3 := Int.mul_le_mul hx.2 hp (Int.le_of_lt (Int.pow_pos (by decide))) (by decide)
    omega
  rw [e]
  have hp : (256 : Int) ^ j ≤ 256 ^ 3 := p256 j hj
  have h3 : x * 256 ^ j ≤ 255 * 256 ^ 3 := Int.mul_le_mul hx.2 hp (Int.le_of_lt (Int.pow_pos (by decide))) (by decide)
  have h4 : 0 ≤ x * 256 ^ j := Int.mul_nonneg hx.1 (Int.le_of_lt (Int.pow_pos (by decide)))
  have h5 : (2 : Int) ^ (8 * j) = 256 ^ j := by rw [Int.pow_mul, show (2 : Int) ^ 8 = 256 from rfl]
  refine Go.bits_join .i64 62 (by decide) wraps_i64 (8 * j) (x * 256 ^ j) acc h4 ?_ (by omega) h0 (by rw [h5]; exact h1) (by omega)
  rw [h5]
  exact Int.mul_emod_left _ _
theorem rd_at {l : List Int} (i : Nat) (h : i < l.length) : rd l (i : Int) = l[i] := by
  unfold rd
  simp [List.getD_eq_getElem?_getD, List.getElem?_eq_getElem h]
theorem get_l0 (l : List Int) (hb : ∀ x ∈ l, 0 ≤ x ∧ x ≤ 255) (hl : l.length ≤ 4) : ∀ (d i : Nat), l.length - i = d → i ≤ l.length → PAll.memo_get.l0 (d + 1) (leV (l.take i)) l (l.length : Int) (i : Int) = some (leV l)
  | 0, i, hd, hi => by
    obtain rfl : i = l.length := by omega
    rw [PAll.memo_get.l0, if_neg (by omega), List.take_length]
  | d + 1, i, hd, hi => by
    have hlt : i < l.length := by omega
    have hbd := leV_bd (l.take i) (fun x hx => hb x (List.mem_of_mem_take hx))
    rw [List.length_take, Nat.min_eq_left hi] at hbd
    have HS := Aside0.mk (or_step (leV (l.take i)) l[i] i (by omega) hbd.1 hbd.2 (hb _ (List.getElem_mem hlt)))
    have HT : Aside0 (leV (l.take (i + 1)) = leV (l.take i) + l[i] * 256 ^ i) := ⟨by rw [List.take_succ_eq_append_getElem hlt, leV_snoc, List.length_take, Nat.min_eq_left hi]⟩
    clear hbd
    have hw : wrap64 ((i : Int) + 1) = ((i + 1 : Nat) : Int) := by rw [wrap_id (by omega) (by omega)]; omega
    have hw8 : 0 ≤ wrap64 (8 * (i : Int)) := by rw [wrap_id (by omega) (by omega)]; omega
    rw [PAll.memo_get.l0]
    refine (if_pos (by omega)).trans ?_
    refine (if_pos (by omega)).trans ?_
    refine (if_pos (by omega)).trans ?_
    refine (if_pos hw8).trans ?_
    rw [rd_at i hlt, HS.out, ← HT.out, hw]
    exact get_l0 l hb hl d (i + 1) (by omega) (by omega)
theorem get_any (A0 : Option Addr) (c0 : Nat) (l : List Int) (w : World) (hr0 : Kd.C (Kd.int .u8) w A0 l.length l) (hc0 : l.length ≤ c0) (hb : ∀ x ∈ l, 0 ≤ x ∧ x ≤ 255) (hl : l.length ≤ 4) :
    Calls Try.prog 36 #[.slice A0 l.length c0] w fun e w' => e = .returned (.int .i64 (leV l)) ∧ Drawn0 w w' :=
  PAll.memo_get.calls (l.length + 1) A0 c0 l _ w hr0 hc0 (get_l0 l hb hl l.length 0 (by omega) (by omega))
/-- A row of bytes of the call's own. -/
def OwnB (w : World) (n : Nat) (v : Value) (xs : List Int) : Prop := Kd.R (Kd.int .u8) 5 w n (fun _ => True) v xs
theorem OwnB.below {w w1 : World} {n : Nat} {v : Value} {xs : List Int} (h : OwnB w n v xs) (hb : Below w.heap.size w w1) : OwnB w1 n v xs := Kd.R_below h hb
/-- A store into a row of bytes. -/
theorem own_put {w : World} {n g N c : Nat} {xs : List Int} (h : OwnB w n (.slice (some ⟨g, 0, none⟩) N c) xs) (i : Nat) (hi : i < xs.length) (x : Int) :
    (∃ y, w.cell? ⟨g, i, none⟩ = some (.int .u8 y)) ∧ w.frozen? ⟨g, i, none⟩ = false ∧ n ≤ g ∧ OwnB (w.setCell ⟨g, i, none⟩ (.int .u8 x)) n (.slice (some ⟨g, 0, none⟩) N c) (xs.set i x) ∧ w.grownBy (w.setCell ⟨g, i, none⟩ (.int .u8 x)) (some g) := by
  obtain ⟨g', cap, he, hg, _, _⟩ := Kd.R_form h (by omega)
  injection he with h1 h2 h3
  injection h1 with h1
  injection h1 with h1
  subst h1 h2 h3
  obtain ⟨cc, hcl, hM, hc, hf⟩ := Kd.R_elem h 0 (i : Int) (by omega) (by omega)
  have hM' : cc = [.int .u8 (xs.getD (i : Int).toNat 0)] := hM
  subst hM'
  have e0 := hc 0 _ rfl
  have f0 := hf 0
  have hsz : (Kd.int .u8).sz = 1 := rfl
  simp only [hsz, Int.toNat_natCast, Nat.add_zero, Nat.mul_one] at e0 f0
  refine ⟨⟨_, e0⟩, f0, hg, ?_⟩
  have hs := (Kd.R_seg (okp := fun _ => False) h (i : Int) (by omega) (by omega) (c := [.int .u8 (xs.getD (i : Int).toNat 0)]) (seg := [.int .u8 x]) (j := 0) rfl hc (by simp [hsz]) (x' := x) rfl (fun _ hk => hk.elim))
  simp only [hsz, Int.toNat_natCast, Nat.mul_one, Nat.add_zero] at hs
  exact hs
/-- Numbers laid over a list, from a place on. -/
def over : List Int → Nat → List Int → List Int
  | xs, _, [] => xs
  | xs, i, y :: ys => over (xs.set i y) (i + 1) ys
theorem over_length : ∀ (ys : List Int) (xs : List Int) (i : Nat), (over xs i ys).length = xs.length
  | [], xs, i => rfl
  | y :: ys, xs, i => by rw [over, over_length ys, List.length_set]
theorem over_snoc : ∀ (ys : List Int) (xs : List Int) (i : Nat) (y : Int), over xs i (ys ++ [y]) = (over xs i ys).set (i + ys.length) y
  | [], xs, i, y => rfl
  | z :: ys, xs, i, y => by rw [List.cons_append, over, over, over_snoc ys, List.length_cons, show i + 1 + ys.length = i + (ys.length + 1) by omega]
end Go.Proofs.Ytdadhificeplmaa

/- put. -/
set_option linter.unusedVariables false
set_option linter.unusedSimpArgs false
namespace Go.Proofs.Ytdadhificeplmaa
open Go.RowKit Go.Proofs.YtdadhificeplmaaW.PrintWords Go.Proofs.YtdadhificeplmaaW.PrintLast Go.Proofs.YtdadhificeplmaaW.PrintMore Go.Proofs.Cab
theorem leB_snoc : ∀ (k : Nat) (n : Int), 0 ≤ n → leB (k + 1) n = leB k n ++ [n / 256 ^ k % 256]
  | 0, n, _ => by simp [leB]
  | k + 1, n, h => by
    have := leB_snoc k (n / 256) (by omega)
    rw [leB, this, leB, List.cons_append, Int.pow_succ, Int.mul_comm, Int.ediv_ediv_of_nonneg (by decide)]
set_option maxHeartbeats 4000000 in
set_option maxRecDepth 100000 in
theorem put_any (base g N c o m c2 : Nat) (xs : List Int) (n : Int) (w : World) (hO : OwnB w base (.slice (some ⟨g, 0, none⟩) N c) xs) (ho : o + m ≤ xs.length) (hm : m ≤ 8) (h0 : 0 ≤ n) (h1 : n ≤ 9223372036854775807) :
    Calls Try.prog 43 #[.slice (some ⟨g, o, none⟩) m c2, .int .i64 n] w fun e w' => e = .returned (.tuple #[]) ∧ OwnB w' base (.slice (some ⟨g, 0, none⟩) N c) (over xs o (leB m n)) ∧ w.grownBy w' (some g) := by
  have HO := Aside0.mk hO
  have HLE := Aside0.mk ho
  clear hO ho
  go_enter Try.func43, Try.ntmps43
  go_wp2_with fail
  go_loopw [7] (fun v7 wr => ∃ k : Nat, v7 = .int .i64 (k : Int) ∧ k ≤ m ∧ Aside0 (OwnB wr base (.slice (some ⟨g, 0, none⟩) N c) (over xs o (leB k n))) ∧ Aside0 (w.grownBy wr (some g))) (fun v7 wr => ((m : Int) - intOf v7).toNat)
  case atStart => exact ⟨0, rfl, by omega, HO, ⟨World.grownBy.refl _ _⟩⟩
  case round =>
    obtain ⟨k, rfl, hk, HO1, HG⟩ := hrel
    by_cases hlt : k < m
    · obtain ⟨⟨y, hy⟩, hf, hb, hO2, hg2⟩ := own_put HO1.out (o + k) (by rw [over_length]; have := HLE.out; omega) (n / 256 ^ k % 256)
      have HO2 : Aside0 (OwnB (wr.setCell ⟨g, o + k, none⟩ (.int .u8 (n / 256 ^ k % 256))) base (.slice (some ⟨g, 0, none⟩) N c) (over xs o (leB (k + 1) n))) := ⟨by
        rw [leB_snoc k n h0, over_snoc, leB_length]; exact hO2⟩
      have HG2 := Aside0.mk (World.grownBy.trans HG.out hg2)
      clear hO2 hg2 hb
      have hlt2 : (k : Int) < (m : Int) := by omega
      have h8 : (8 * (k : Int)).toNat = 8 * k := by omega
      have hpw : (2 : Int) ^ (8 * k) = 256 ^ k := by rw [Int.pow_mul, show (2 : Int) ^ 8 = 256 from rfl]
      go_wp2_with fail
      go_roundw
      case rel => exact ⟨k + 1, by go_num, by omega, HO2, HG2⟩
      case measure => simp [intOf]; omega
    · go_wp2_with fail
      obtain rfl : k = m := by omega
      go_end0
      exact ⟨rfl, HO1.out, HG.out⟩
end Go.Proofs.Ytdadhificeplmaa

/- Bytes appended: filled, four. -/
set_option linter.unusedVariables false
set_option linter.unusedSimpArgs false
namespace Go.Proofs.Ytdadhificeplmaa
open Go.RowKit Go.Proofs.YtdadhificeplmaaW.PrintWords Go.Proofs.YtdadhificeplmaaW.PrintLast Go.Proofs.YtdadhificeplmaaW.PrintMore Go.Proofs.Cab
theorem info5 : (Try.prog.info? 5).map (fun i => (i.zero, i.size, i.bytes)) = some (some (.int .u8 0), 1, 1) := by kernel_rfl
section
variable {ops : Array Oper} {rest : List Oper} {o : Oper} {a : Act} {Q : Exit → Act → World → Prop}
/-- append(v, y) on a row of bytes. -/
theorem appB1 {w0 W : World} (base : Nat) (hgd : o.guard = none) (s x : Operand) (ho : o.op = .call { callee := .builtin .append, args := #[s, x], argTypes := #[27, 27] })
    (v : Value) (xs : List Int) (y : Int) (hs : a.eval s = v) (hx : a.eval x = .slice (some ⟨W.heap.size, 0, none⟩) 1 1) (HO : OwnB W base v xs) (HB : Below base w0 W) (hbase : base ≤ W.heap.size) (hl : xs.length < 17592186044416)
    (h : ∀ v1 w1, OwnB w1 base v1 (xs ++ [y]) → Below base w0 w1 → W.grownBy w1 v.ownBlock → wpList Try.prog ops Q rest (a.put o.dst v1) w1) :
    wpList Try.prog ops Q (o :: rest) a (W.alloc (.cells #[.int .u8 y] 5)) :=
  Kd.R_append (Kd.int .u8) (w0 := w0) base hgd s x 27 5 (.int .u8 0) 1 ho Try.underlying27 info5 rfl (by decide) (by omega) v xs y [.int .u8 y] (fun _ => True) (fun _ => False) hs hx rfl (fun _ hk => hk.elim) (fun _ _ => trivial) HO HB hbase (by omega)
    fun v1 w1 ho hb hg _ => h v1 w1 ho hb hg
/-- append(v, ys...) on a row of bytes. -/
theorem appRowB {w0 W : World} (base : Nat) (hgd : o.guard = none) (s x : Operand) (ho : o.op = .call { callee := .builtin .append, args := #[s, x], argTypes := #[27, 27] })
    (v : Value) (xs ys : List Int) (A : Option Addr) (m c : Nat) (hs : a.eval s = v) (hx : a.eval x = .slice A m c) (HO : OwnB W base v xs) (HR : Kd.C (Kd.int .u8) W A m ys) (HB : Below base w0 W) (hbase : base ≤ W.heap.size) (hl : xs.length + m < 17592186044415)
    (h : ∀ v1 w1, OwnB w1 base v1 (xs ++ ys) → Below base w0 w1 → W.grownBy w1 v.ownBlock → wpList Try.prog ops Q rest (a.put o.dst v1) w1) : wpList Try.prog ops Q (o :: rest) a W :=
  Kd.R_append_row (Value.int .u8) 0 (w0 := w0) base hgd s x 27 5 (.int .u8 0) 1 ho Try.underlying27 info5 rfl (by decide) v xs ys A m c (fun _ => True) hs hx (fun _ _ => trivial) HO HR HB hbase (by omega)
    fun v1 w1 ho hb hg _ => h v1 w1 ho hb hg
end
def fillTo (xs : List Int) (n : Nat) : List Int := xs ++ List.replicate (n - xs.length) 0
theorem fillTo_length (xs : List Int) (n : Nat) (h : xs.length ≤ n) : (fillTo xs n).length = n := by simp [fillTo]; omega
def lenOf : Value → Nat
  | .slice _ n _ => n
  | _ => 0
set_option maxHeartbeats 4000000 in
set_option maxRecDepth 100000 in
theorem filled_any (base : Nat) (v : Value) (xs : List Int) (n : Nat) (w : World) (hO : OwnB w base v xs) (hb : base ≤ w.heap.size) (hx : xs.length ≤ n) (hn : n ≤ 1000000000) :
    Calls Try.prog 57 #[v, .int .i64 (n : Int)] w fun e w' => ∃ v', e = .returned v' ∧ OwnB w' base v' (fillTo xs n) ∧ Below base w w' := by
  have HO := Aside0.mk hO
  have HBB := Aside0.mk hb
  have HX := Aside0.mk hx
  obtain ⟨A, c, rfl⟩ := Kd.R_slice hO
  clear hO hb hx
  go_enter Try.func57, Try.ntmps57
  go_wp2_with fail
  go_loopw [0] (fun v0 wr => ∃ (A : Option Addr) (c k : Nat), v0 = .slice A k c ∧ k ≤ n ∧ xs.length ≤ k ∧ Aside0 (OwnB wr base v0 (fillTo xs k)) ∧ Aside0 (Below base w wr)) (fun v0 wr => n - lenOf v0)
  case atStart => exact ⟨A, c, xs.length, rfl, HX.out, Nat.le_refl _, ⟨by simpa [fillTo] using HO.out⟩, ⟨Below.refl _ _⟩⟩
  case round =>
    obtain ⟨A, c, k, rfl, hk, hxk, HO1, HB1⟩ := hrel
    by_cases hlt : k < n
    · have hlt2 : (k : Int) < (n : Int) := by omega
      have HL : Aside0 ((fillTo xs k).length = k) := ⟨fillTo_length _ _ hxk⟩
      go_wp2_with (at_builtin; refine appB1 (w0 := w) (W := wr) base (by rfl) _ _ (by rfl) (.slice A k c) (fillTo xs k) 0 (by rfl) (by rfl) HO1.out HB1.out (Nat.le_trans HBB.out HB1.out.size) (by have := HL.out; omega) ?_; intro v1 w1 ho hb hg; have HO2 := Aside0.mk ho; have HB2 := Aside0.mk hb; obtain ⟨A2, c2, he⟩ := Kd.R_slice ho; rw [List.length_append, HL.out, List.length_singleton] at he; subst he; clear ho hb hg)
      go_roundw
      case rel =>
        refine ⟨A2, c2, k + 1, rfl, by omega, by omega, ⟨?_⟩, HB2⟩
        have h := HO2.out
        rw [show fillTo xs (k + 1) = fillTo xs k ++ [0] by
          unfold fillTo
          rw [show k + 1 - xs.length = (k - xs.length) + 1 by omega, List.replicate_succ', List.append_assoc]]
        exact h
      case measure =>
        show n - (k + 1) < n - k
        omega
    · obtain rfl : k = n := by omega
      go_wp2_with fail
      go_ret
      exact ⟨_, rfl, HO1.out, HB1.out⟩
def fourF (n : Int) : List Int := [n % 256, n / 256 % 256, n / 65536 % 256, n / 16777216 % 256]
theorem fourF_leB (n : Int) (h : 0 ≤ n) : fourF n = leB 4 n := by
  unfold fourF
  simp only [leB]
  rw [Int.ediv_ediv_of_nonneg (by decide), Int.ediv_ediv_of_nonneg (by decide)]
  rfl
theorem four_any (n : Int) (w : World) : Calls Try.prog 58 #[.int .i64 n] w fun e w' => ∃ v : Value, e = .returned v ∧ OwnB w' w.heap.size v (fourF n) ∧ Below w.heap.size w w' :=
  PAll.cabinetryref04_four.calls n _ w rfl
end Go.Proofs.Ytdadhificeplmaa

/- end, at every memo. -/
set_option linter.unusedVariables false
set_option linter.unusedSimpArgs false
namespace Go.Proofs.Ytdadhificeplmaa
open Go.RowKit Go.Proofs.YtdadhificeplmaaW.PrintWords Go.Proofs.YtdadhificeplmaaW.PrintLast Go.Proofs.YtdadhificeplmaaW.PrintMore Go.Proofs.Cab
def endF (es : List Ent) : Int := match es.getLast? with
  | some x => x.b + x.n
  | none => 1
set_option maxHeartbeats 4000000 in
set_option maxRecDepth 100000 in
theorem endG_any (base b : Nat) (ok : Nat → Prop) (size : Int) (v : Value) (es : List Ent) (w : World) (hM : memoHeld w b size v) (hR : Kd.R kE 78 w base ok v es) (hn : es.length ≤ 100000) (he : ∀ x ∈ es, (0 ≤ x.b ∧ x.b ≤ 100000000) ∧ 0 ≤ x.n ∧ x.n ≤ 100000000) :
    Calls Try.prog 42 #[.pointer (some ⟨b, 0, none⟩)] w fun e w' => e = .returned (.int .i64 (endF es)) ∧ Below w.heap.size w w' := by
  rcases List.eq_nil_or_concat es with rfl | ⟨rs, x, rfl⟩
  · exact end_any base b ok size v w hM hR
  · rw [List.concat_eq_append] at *
    have hlen : (rs ++ [x]).length = rs.length + 1 := by simp
    obtain ⟨g, cap, rfl, _, _, hg, e0, e1, e2, e3⟩ := at_E hR rs.length (by omega)
    have hx : (rs ++ [x])[rs.length]'(by omega) = x := by simp
    rw [hx] at e0 e1 e2 e3
    rw [hlen] at hn hM
    have hE : endF (rs ++ [x]) = x.b + x.n := by simp [endF]
    have hxb := he x (by simp)
    obtain ⟨⟨b1, b2⟩, n1, n2⟩ := hxb
    have hc : w.cell? ⟨b, 3, none⟩ = some (.slice (some ⟨g, 0, none⟩) (rs.length + 1) cap) := (blk_cell hM 3).trans rfl
    have hi : wrap64 ((rs.length : Int) + 1 - 1) = (rs.length : Int) := by rw [wrap_id (by omega) (by omega)]; omega
    have hz : ((rs.length : Int) + 1 == 0) = false := by simp; omega
    have hsub : (rs.length : Int) + 1 - 1 = (rs.length : Int) := by omega
    rw [hE]
    have HB := blk_lt hM
    clear hM hR hE he hx hlen
    go_enter Try.func42, Try.ntmps42
    go_wp2_with fail
    refine wp_region_segs (by kernel_rfl) [(false, [0, 1, 2, 4, 5, 6, 3, 7, 8, 9, 10, 11, 12, 13])] (by decide) (by kernel_rfl) ?_
    simp only [wpSegs, pickOps, List.getElem?_toArray, List.getElem?_cons_succ, List.getElem?_cons_zero, Bool.false_eq_true, false_implies, true_and, forall_const]
    go_wp2_with fail
    refine ⟨rfl, by kernel_rfl, ?_⟩
    go_wp2_with fail
    go_ret
    exact ⟨rfl, below_alloc (below_drew1 (Below.refl _ _)) _⟩
end Go.Proofs.Ytdadhificeplmaa

/- Cuts of rows of bytes; copy of a string into one; what Bytes writes. -/
set_option linter.unusedVariables false
set_option linter.unusedSimpArgs false
namespace Go.Proofs.Ytdadhificeplmaa
open Go.RowKit Go.Proofs.YtdadhificeplmaaW.PrintWords Go.Proofs.YtdadhificeplmaaW.PrintLast Go.Proofs.YtdadhificeplmaaW.PrintMore Go.Proofs.Cab
theorem addr_add (g o k : Nat) : (⟨g, o, none⟩ : Addr).add k = ⟨g, o + k, none⟩ := by
  unfold Addr.add
  by_cases h : k = 0
  · subst h; simp
  · simp [h]
theorem cut_lh (g o n c lo hi : Nat) (h1 : lo ≤ hi) (h2 : hi ≤ n) (hc : n ≤ c) (h3 : lo < c) (W : World) : (Instr.slice 27 (.slice (some ⟨g, o, none⟩) n c) (some (.int .i64 (lo : Int))) (some (.int .i64 (hi : Int))) none).run Try.prog W = .ok (.slice (some ⟨g, o + lo, none⟩) (hi - lo) (c - lo)) W := by
  obtain ⟨i0, hi0, hz⟩ := Option.map_eq_some_iff.1 info5
  simp only [Prod.mk.injEq] at hz
  have hel : Try.prog.elem 27 = 5 := by simp [Program.elem, Try.underlying27]
  have hu : Try.prog.underlying 27 = some (.slice (Try.prog.elem 27)) := by rw [hel]; exact Try.underlying27
  rw [run_slice_lh W 27 (some ⟨g, o, none⟩) n c hu .i64 .i64 (lo : Int) (hi : Int) (by omega) (by omega) (by omega), hel]
  have hne : ¬ c = lo := by omega
  simp [sizeOf, typeInfo, hi0, hz.2.1, sliced, Result.andThen, hne, addr_add]
theorem cut_l (g o n c lo : Nat) (h1 : lo ≤ n) (hc : n ≤ c) (h3 : lo < c) (W : World) : (Instr.slice 27 (.slice (some ⟨g, o, none⟩) n c) (some (.int .i64 (lo : Int))) none none).run Try.prog W = .ok (.slice (some ⟨g, o + lo, none⟩) (n - lo) (c - lo)) W := by
  obtain ⟨i0, hi0, hz⟩ := Option.map_eq_some_iff.1 info5
  simp only [Prod.mk.injEq] at hz
  have hel : Try.prog.elem 27 = 5 := by simp [Program.elem, Try.underlying27]
  have hu : Try.prog.underlying 27 = some (.slice (Try.prog.elem 27)) := by rw [hel]; exact Try.underlying27
  rw [run_slice_l W 27 (some ⟨g, o, none⟩) n c hu .i64 (lo : Int) (by omega) (by omega), hel]
  have hne : ¬ c = lo := by omega
  simp [sizeOf, typeInfo, hi0, hz.2.1, sliced, Result.andThen, hne, addr_add]
theorem over_eq : ∀ (ys xs : List Int) (o : Nat), o + ys.length ≤ xs.length → over xs o ys = xs.take o ++ ys ++ xs.drop (o + ys.length)
  | [], xs, o, h => by simp [over]
  | y :: ys, xs, o, h => by
    rw [List.length_cons] at h
    rw [over, over_eq ys (xs.set o y) (o + 1) (by rw [List.length_set]; omega)]
    have h1 : (xs.set o y).take (o + 1) = xs.take o ++ [y] := by
      rw [List.take_set, List.take_succ_eq_append_getElem (by omega), List.set_append_right _ _ (by rw [List.length_take]; omega)]
      have : o - (xs.take o).length = 0 := by rw [List.length_take]; omega
      rw [this]
      rfl
    have h2 : (xs.set o y).drop (o + 1 + ys.length) = xs.drop (o + 1 + ys.length) := by
      rw [List.drop_set_of_lt (by omega)]
    rw [h1, h2, List.length_cons, show o + 1 + ys.length = o + (ys.length + 1) by omega]
    simp
/-- A string's bytes as numbers. -/
def numsS (s : ByteArray) : List Int := s.data.toList.map fun u => (u.toNat : Int)
theorem numsS_length (s : ByteArray) : (numsS s).length = s.size := by rw [numsS, List.length_map, Array.length_toList]; rfl
theorem numsS_byte (s : ByteArray) : ∀ x ∈ numsS s, 0 ≤ x ∧ x ≤ 255 := by
  intro x hx
  obtain ⟨u, _, rfl⟩ := List.mem_map.1 hx
  have := u.toNat_lt
  omega
theorem own_copy {w : World} {n g N c o m c2 : Nat} {xs : List Int} (h : OwnB w n (.slice (some ⟨g, 0, none⟩) N c) xs) (s : ByteArray) (ho : o + s.size ≤ xs.length) (hm : s.size ≤ m) :
    ∃ w', (Builtin.copy_ #[27, 9] 3 #[.slice (some ⟨g, o, none⟩) m c2, .string s]).run Try.prog w = .ok (goInt s.size) w' ∧ OwnB w' n (.slice (some ⟨g, 0, none⟩) N c) (over xs o (numsS s)) ∧ w.grownBy w' (some g) := by
  have hown := Kd.own_of_R h
  obtain ⟨hl, hc⟩ := hown
  rcases hc with ⟨he, _⟩ | ⟨g', cap, cur, he, hb, hg, h1, h2, h3, h4⟩
  · simp at he
  · injection he with e1 e2 e3
    injection e1 with e1
    injection e1 with e1
    subst e1 e2 e3
    have hNx : xs.length ≤ cur.size := by omega
    refine ⟨_, Go.Lib.run_copy_row_string w 27 9 3 5 g o m c2 s cur 5 Try.underlying27 (by kernel_rfl) hg hm (by omega), ?_, ⟨rfl, rfl, rfl, by simp [World.setRow], fun k hk hne => setRow_other w g k _ (fun e => hne (by rw [e]))⟩⟩
    refine Kd.R_of_own ⟨by rw [encs_length, Nat.mul_one], .inr ⟨g, c, _, by rw [over_length], hb, setRow_heap w g cur _ 5 (0, 0) hg, by rw [over_length]; exact h1, h2, ?_, ?_⟩⟩ (fun _ _ => trivial)
    · simp [Go.Lib.byteCells_length]
      have : s.data.size = s.size := rfl
      omega
    · rw [over_length, over_eq _ _ _ (by rw [numsS_length]; exact ho), numsS_length]
      have hcur : cur.toList.take xs.length = xs.map (Value.int .u8) := by simpa [encs] using h4
      have hb2 : Go.Lib.byteCells s.data.toList = (numsS s).map (Value.int .u8) := by simp [Go.Lib.byteCells, numsS]
      have hL : ((numsS s).map (Value.int .u8)).length = s.size := by rw [List.length_map, numsS_length]
      have hA : (cur.toList.take o).length = o := by rw [List.length_take, Array.length_toList]; omega
      have e1 : cur.toList.take o = (xs.take o).map (Value.int .u8) := by
        rw [List.map_take, ← hcur, List.take_take, Nat.min_eq_left (by omega)]
      have e2 : (cur.toList.drop (o + s.size)).take (xs.length - (o + s.size)) = (xs.drop (o + s.size)).map (Value.int .u8) := by
        rw [List.map_drop, ← hcur, List.drop_take]
      rw [hb2, Nat.mul_one]
      show (cur.toList.take o ++ (numsS s).map (Value.int .u8) ++ cur.toList.drop (o + s.size)).take xs.length = (xs.take o ++ numsS s ++ xs.drop (o + s.size)).map (Value.int .u8)
      rw [List.take_append, List.take_of_length_le (by rw [List.length_append, hA, hL]; omega), List.length_append, hA, hL, e2, e1, List.map_append, List.map_append]
section
variable {ops : Array Oper} {rest : List Oper} {o : Oper} {a : Act} {Q : Exit → Act → World → Prop} {P : Program}
theorem wpList_copyS (w : World) (hgd : o.guard = none) (d s : Operand) (t t' : TypeId)
    (ho : o.op = .call { callee := .builtin .copy, args := #[d, s], argTypes := #[t, t'] }) (v u : Value) (hd : a.eval d = v) (hs : a.eval s = u) {v' : Value} {w' : World}
    (hr : (Builtin.copy_ #[t, t'] o.type #[v, u]).run P w = .ok v' w') (h : wpList P ops Q rest (a.put o.dst v') w') : wpList P ops Q (o :: rest) a w :=
  wpList_plain hgd fun K hK => by
    unfold Oper.wp execOp
    simp only [ho, resolve, invoke, builtin, Sem.run_bind, Sem.run_pure, Result.andThen_ok, List.map_toArray, List.map_cons, List.map_nil, hd, hs, hr]
    exact hK _ _ h
end
end Go.Proofs.Ytdadhificeplmaa

/- Bytes, walked. -/
set_option linter.unusedVariables false
set_option linter.unusedSimpArgs false
namespace Go.Proofs.Ytdadhificeplmaa
open Go.RowKit Go.Proofs.YtdadhificeplmaaW.PrintWords Go.Proofs.YtdadhificeplmaaW.PrintLast Go.Proofs.YtdadhificeplmaaW.PrintMore Go.Proofs.Cab
open Go.MuLone
theorem ext_of_below {w w' : World} (h : Below w.heap.size w w') : Ext w w' := fun k hk => h.block k hk
def hdrP (size E : Int) (N : Nat) : List Int := over (over (List.replicate N 0) 0 (leB 4 E)) 4 (leB 2 size)
def wrE (size : Int) (xs : List Int) (x : Ent) : List Int :=
  if x.k = 1 then over (over (over (over xs (x.b * size).toNat (leB 4 x.k)) ((x.b * size).toNat + 4) (leB 4 x.n)) ((x.b * size).toNat + 8) (leB 4 (x.s.size : Int))) ((x.b * size).toNat + 12) (numsS x.s)
  else over (over xs (x.b * size).toNat (leB 4 x.k)) ((x.b * size).toNat + 4) (leB 4 x.n)
theorem hdrP_length (size E : Int) (N : Nat) : (hdrP size E N).length = N := by rw [hdrP, over_length, over_length, List.length_replicate]
theorem wrE_length (size : Int) (xs : List Int) (x : Ent) : (wrE size xs x).length = xs.length := by
  unfold wrE
  split <;> simp only [over_length]
theorem foldl_length (size : Int) : ∀ (es : List Ent) (xs : List Int), (es.foldl (wrE size) xs).length = xs.length
  | [], _ => rfl
  | x :: es, xs => by rw [List.foldl_cons, foldl_length size es, wrE_length]
def bytesP (size : Int) (es : List Ent) : List Int := es.foldl (wrE size) (hdrP size (endF es) (endF es * size).toNat)
/-- What is asked of a memo's entries where its bytes are written. -/
def Fits (size : Int) (es : List Ent) : Prop := (16 ≤ size ∧ size ≤ 256) ∧ (1 ≤ endF es ∧ endF es ≤ 4096) ∧ ∀ x ∈ es, (1 ≤ x.b ∧ 1 ≤ x.n ∧ x.b + x.n ≤ endF es) ∧ (x.k = 0 ∨ x.k = 1) ∧ (12 + (x.s.size : Int) ≤ x.n * size ∨ x.k = 0) ∧ x.s.size ≤ 2048
theorem mul_bd {a s E : Int} (h0 : 0 ≤ a) (h1 : a ≤ E) (hs : 0 ≤ s) : a * s ≤ E * s := Int.mul_le_mul_of_nonneg_right h1 hs
set_option maxHeartbeats 4000000 in
set_option maxRecDepth 100000 in
theorem Bytes_any (base0 b : Nat) (ok : Nat → Prop) (size : Int) (v : Value) (es : List Ent) (w : World) (hM : MemoAt w b size v) (hR : Kd.R kE 78 w base0 ok v es) (hok : ∀ k, ok k → k ≠ b) (hn : es.length ≤ 100000) (hF : Fits size es) :
    Calls Try.prog 14 #[.pointer (some ⟨b, 0, none⟩)] w fun e w' => ∃ v', e = .returned v' ∧ OwnB w' w.heap.size v' (bytesP size es) ∧ Below w.heap.size w w' := by
  have HR : Aside0 (Kd.R kE 78 (w.setCell ⟨b, 0, none⟩ (.int .i32 1)) base0 ok v es) := ⟨Kd.R_far hR (p := ⟨b, 0, none⟩) hok _⟩
  have HM := Aside0.mk hM
  have HF := Aside0.mk hF
  have HS := Aside0.mk (set_size w ⟨b, 0, none⟩ (.int .i32 1))
  have hc : w.cell? ⟨b, 0, none⟩ = some (.int .i32 0) := (blk_cell hM 0).trans rfl
  have hf : w.frozen? ⟨b, 0, none⟩ = false := blk_frozen hM 0
  have HH : Aside0 (memoHeld (w.setCell ⟨b, 0, none⟩ (.int .i32 1)) b size v) := ⟨blk_put hM 0 _ rfl⟩
  obtain ⟨A, c, rfl⟩ := Kd.R_slice hR
  clear hR hF
  go_enter_defers Try.func14, Try.ntmps14
  go_wp2_with (go_at_call 40; refine (lock_free muLib ⟨b, 0, none⟩ _ hc hf).mono ?_; rintro e w' ⟨rfl, rfl⟩)
  clear hc hf hM
  generalize hw1 : w.setCell ⟨b, 0, none⟩ (.int .i32 1) = w1 at *
  have HW1 := Aside0.mk hw1
  clear hw1
  obtain ⟨⟨z1, z2⟩, ⟨en1, en2⟩, hx⟩ := HF.out
  have HX := Aside0.mk hx
  have HEE : Aside0 (∀ x ∈ es, (0 ≤ x.b ∧ x.b ≤ 100000000) ∧ 0 ≤ x.n ∧ x.n ≤ 100000000) := ⟨fun x hm => by have := (hx x hm).1; omega⟩
  have hc2 : w1.cell? ⟨b, 2, none⟩ = some (.int .i64 size) := (blk_cell HH.out 2).trans rfl
  clear hx
  refine wp_region_segs (by kernel_rfl) [(false, [0, 2, 3, 4, 5]), (true, [1]), (false, [6, 7, 8])] (by decide) (by kernel_rfl) ?_
  simp only [wpSegs, pickOps, List.getElem?_toArray, List.getElem?_cons_succ, List.getElem?_cons_zero, Bool.false_eq_true, false_implies, true_and, forall_const]
  go_wp2_with fail
  refine (endG_any base0 b ok size _ es w1.drew HH.out HR.out hn HEE.out).mono ?_
  rintro e w2 ⟨rfl, hb⟩
  have HX2 := Aside0.mk (ext_of_below hb)
  have HB2 : Aside0 (Below w1.heap.size w1 w2) := ⟨below_step (below_drew1 (Below.refl _ _)) hb⟩
  clear hb hc2
  have hEN : 0 ≤ endF es * size := Int.mul_nonneg (by omega) (by omega)
  have hEM : endF es * size ≤ 4096 * 256 := Int.mul_le_mul en2 z2 (by omega) (by omega)
  obtain ⟨N, hN⟩ : ∃ N : Nat, endF es * size = (N : Int) := ⟨(endF es * size).toNat, by omega⟩
  have HNN := Aside0.mk hN
  have hN2 : N ≤ 1048576 := by omega
  have hN3 : 16 ≤ N := by have := mul_bd (a := 1) (s := size) (by omega) en1 (by omega); omega
  obtain ⟨E, hE⟩ : ∃ E, endF es = E := ⟨_, rfl⟩
  have HEQ := Aside0.mk hE
  rw [hE] at hN en1 en2 ⊢
  clear hE hEN hEM
  go_wp2_with fail
  refine ⟨HX2.out, ?_⟩
  go_wp2_with ((with_reducible refine gate_dst (N := 23) rfl ?_); refine Kd.R_make (Kd.int .u8) (w0 := w2) w1.heap.size 5 rfl (N := 23) rfl 27 _ _ rfl (N : Int) rfl rfl Try.underlying27 (.int .u8 0) 1 info5 rfl (by decide) (by omega) 0 (ok := fun _ => True) (okp := fun _ => True) rfl (fun _ hk => hk) trivial (by omega) (by omega) (Below.refl _ _) HB2.out.size ?_; intro v3 w3 ho hb hg hat; have HO3 := Aside0.mk ho; have HB3 : Aside0 (Below w1.heap.size w1 w3) := ⟨HB2.out.trans hb⟩; clear ho hb hg hat)
  rw [Int.toNat_natCast] at HO3
  obtain ⟨g, c3, he, hg0, hglt, _⟩ := Kd.R_form HO3.out (by rw [List.length_replicate]; omega)
  obtain ⟨A3, c3', he2, hcl, _⟩ := Kd.R_reads HO3.out
  rw [List.length_replicate] at he hcl
  rw [he] at he2
  injection he2 with q1 q2 q3
  subst q3 he
  have HG0 := Aside0.mk (And.intro hg0 hglt)
  clear q1 q2 hg0 hglt
  have k1 : ∀ W, (Instr.slice 27 (.slice (some ⟨g, 0, none⟩) N c3) (some (.int .i64 0)) (some (.int .i64 4)) none).run Try.prog W = .ok (.slice (some ⟨g, 0, none⟩) 4 c3) W := fun W => by simpa using cut_lh g 0 N c3 0 4 (by omega) (by omega) hcl (by omega) W
  have k2 : ∀ W, (Instr.slice 27 (.slice (some ⟨g, 0, none⟩) N c3) (some (.int .i64 4)) (some (.int .i64 6)) none).run Try.prog W = .ok (.slice (some ⟨g, 4, none⟩) 2 (c3 - 4)) W := fun W => by simpa using cut_lh g 0 N c3 4 6 (by omega) (by omega) hcl (by omega) W
  have HCL := Aside0.mk hcl
  clear hcl
  have hbg : b < w1.heap.size := blk_lt HH.out
  have HBG : Aside0 (¬ b = g) := ⟨by have := HG0.out; omega⟩
  clear hbg
  go_wp2_with fail
  refine ⟨rfl, by kernel_rfl, ?_⟩
  go_wp2_with fail
  refine wp_region_segs (by kernel_rfl) [(false, [0, 1, 2, 3, 4])] (by decide) (by kernel_rfl) ?_
  simp only [wpSegs, pickOps, List.getElem?_toArray, List.getElem?_cons_succ, List.getElem?_cons_zero, Bool.false_eq_true, false_implies, true_and, forall_const]
  go_wp2_with fail
  refine (endG_any base0 b ok size _ es w3.drew (blk_below HH.out (below_drew1 HB3.out)) (Kd.R_below HR.out (below_drew1 HB3.out)) hn HEE.out).mono ?_
  rintro e w4 ⟨rfl, hb⟩
  rw [HEQ.out]
  have HO4 : Aside0 (OwnB w4 w1.heap.size (.slice (some ⟨g, 0, none⟩) N c3) (List.replicate N 0)) := ⟨OwnB.below (w := w3.drew) HO3.out hb⟩
  have HB4 : Aside0 (Below w1.heap.size w1 w4) := ⟨below_step (below_drew1 HB3.out) hb⟩
  clear hb
  go_wp2_with fail
  refine (put_any w1.heap.size g N c3 0 4 c3 (List.replicate N 0) E _ HO4.out (by rw [List.length_replicate]; omega) (by omega) (by omega) (by omega)).mono ?_
  rintro e w5 ⟨rfl, ho, hg⟩
  have HO5 := Aside0.mk ho
  have HB5 : Aside0 (Below w1.heap.size w1 w5) := ⟨HB4.out.grown hg HB4.out.size (fun k e => by cases e; exact HG0.out.1)⟩
  clear ho hg
  have hs5 : w5.cell? ⟨b, 2, none⟩ = some (.int .i64 size) := (blk_cell (blk_below HH.out HB5.out) 2).trans rfl
  go_wp2_with fail
  refine ⟨rfl, by kernel_rfl, ?_⟩
  go_wp2_with fail
  refine wp_region_segs (by kernel_rfl) [(false, [0, 1, 2, 3, 4, 5, 6])] (by decide) (by kernel_rfl) ?_
  simp only [wpSegs, pickOps, List.getElem?_toArray, List.getElem?_cons_succ, List.getElem?_cons_zero, Bool.false_eq_true, false_implies, true_and, forall_const]
  go_wp2_with fail
  refine (put_any w1.heap.size g N c3 4 2 (c3 - 4) _ size w5.drew HO5.out (by rw [over_length, List.length_replicate]; omega) (by omega) (by omega) (by omega)).mono ?_
  rintro e w6 ⟨rfl, ho, hg⟩
  have HO6 : Aside0 (OwnB w6 w1.heap.size (.slice (some ⟨g, 0, none⟩) N c3) (hdrP size E N)) := ⟨ho⟩
  have HB6 : Aside0 (Below w1.heap.size w1 w6) := ⟨(below_drew1 HB5.out).grown hg HB5.out.size (fun k e => by cases e; exact HG0.out.1)⟩
  clear ho hg hs5
  have hs6 : w6.cell? ⟨b, 3, none⟩ = some (.slice A es.length c) := (blk_cell (blk_below HH.out HB6.out) 3).trans rfl
  go_wp2_with fail
  refine ⟨rfl, by kernel_rfl, ?_⟩
  go_wp2_with fail
  go_loopw [41] (fun v41 wr => ∃ k : Nat, v41 = .int .i64 (k : Int) ∧ k ≤ es.length ∧ Aside0 (OwnB wr w1.heap.size (.slice (some ⟨g, 0, none⟩) N c3) ((es.take k).foldl (wrE size) (hdrP size E N))) ∧ Aside0 (Below w1.heap.size w1 wr)) (fun v41 wr => ((es.length : Int) - intOf v41).toNat)
  case atStart => exact ⟨0, rfl, by omega, HO6, HB6⟩
  case round =>
    clear hs6
    obtain ⟨k, rfl, hk, HO, HB⟩ := hrel
    by_cases hlt : k < es.length
    · obtain ⟨g2, cap, hv, _, _, hg2, e0, e1, e2, e3⟩ := at_E HR.out k hlt
      injection hv with hv1 hv2 hv3
      subst hv1 hv3
      have e0 := (HB.out.cell hg2).trans e0
      have e1 := (HB.out.cell hg2).trans e1
      have e2 := (HB.out.cell hg2).trans e2
      have e3 := (HB.out.cell hg2).trans e3
      have HFO : Aside0 ((es.take (k + 1)).foldl (wrE size) (hdrP size E N) = wrE size ((es.take k).foldl (wrE size) (hdrP size E N)) es[k]) := ⟨by rw [List.take_succ_eq_append_getElem hlt, List.foldl_append]; rfl⟩
      have hxx := HX.out es[k] (List.getElem_mem hlt)
      obtain ⟨x, hx⟩ : ∃ x, es[k] = x := ⟨_, rfl⟩
      rw [hx] at e0 e1 e2 e3 HFO hxx
      have HL : Aside0 (((es.take k).foldl (wrE size) (hdrP size E N)).length = N) := ⟨by rw [foldl_length, hdrP_length]⟩
      obtain ⟨xs, hxs⟩ : ∃ xs, (es.take k).foldl (wrE size) (hdrP size E N) = xs := ⟨_, rfl⟩
      rw [hxs] at HO HFO HL
      clear hxs hx
      obtain ⟨⟨xb1, xn1, xe⟩, xk, xf, xs2⟩ := hxx
      rw [HEQ.out] at xe
      have hNE : endF es * size = E * size := by rw [HEQ.out]
      have hob0 : 0 ≤ x.b * size := Int.mul_nonneg (by omega) (by omega)
      have hmb0 : 0 ≤ x.n * size := Int.mul_nonneg (by omega) (by omega)
      have hsum : x.b * size + x.n * size ≤ E * size := by rw [← Int.add_mul]; exact Int.mul_le_mul_of_nonneg_right xe (by omega)
      have hm16 : 1 * size ≤ x.n * size := Int.mul_le_mul_of_nonneg_right xn1 (by omega)
      obtain ⟨o, ho⟩ : ∃ o : Nat, x.b * size = (o : Int) := ⟨(x.b * size).toNat, by omega⟩
      obtain ⟨m, hm⟩ : ∃ m : Nat, x.n * size = (m : Int) := ⟨(x.n * size).toNat, by omega⟩
      have hN9 := HNN.out
      rw [hNE] at hN9
      rw [ho, hm, hN9] at hsum
      rw [hm] at hm16 xf
      have hom : o + m ≤ N := by omega
      have hm15 : 16 ≤ m := by omega
      have hoT : (x.b * size).toNat = o := by rw [ho]; rfl
      have HOT := Aside0.mk hoT
      have hbnd : x.b ≤ 4096 ∧ x.n ≤ 4096 := by omega
      obtain ⟨xb2, xn2⟩ := hbnd
      clear hNE hob0 hmb0 hsum hm hN9 hm16 hoT
      have HBX : Aside0 ((wr.alloc (.cells #[.int .i64 x.b, .int .i64 x.n, .int .i64 x.k, .string x.s] 78)).heap[wr.heap.size]? = some (.cells #[.int .i64 x.b, .int .i64 x.n, .int .i64 x.k, .string x.s] 78 (0, 0))) := ⟨blk_new _ _⟩
      have HOX : Aside0 (OwnB (wr.alloc (.cells #[.int .i64 x.b, .int .i64 x.n, .int .i64 x.k, .string x.s] 78)) w1.heap.size (.slice (some ⟨g, 0, none⟩) N c3) xs) := ⟨Kd.R_alloc HO.out _⟩
      have HBW : Aside0 (Below w1.heap.size w1 (wr.alloc (.cells #[.int .i64 x.b, .int .i64 x.n, .int .i64 x.k, .string x.s] 78))) := ⟨below_alloc HB.out _⟩
      have hgr : g < wr.heap.size := by
        obtain ⟨g', _, he', _, h', _⟩ := Kd.R_form HO.out (by have := HL.out; omega)
        injection he' with e1 _ _
        injection e1 with e1
        injection e1 with e1
        subst e1
        exact h'
      have HGB : Aside0 (¬ wr.heap.size = g) := ⟨by omega⟩
      clear hgr
      have hcl := HCL.out
      have kc : ∀ W, (Instr.slice 27 (.slice (some ⟨g, 0, none⟩) N c3) (some (.int .i64 (o : Int))) none none).run Try.prog W = .ok (.slice (some ⟨g, o, none⟩) (N - o) (c3 - o)) W := fun W => by simpa using cut_l g 0 N c3 o (by omega) hcl (by omega) W
      have k3 : ∀ W, (Instr.slice 27 (.slice (some ⟨g, o, none⟩) (N - o) (c3 - o)) (some (.int .i64 0)) (some (.int .i64 4)) none).run Try.prog W = .ok (.slice (some ⟨g, o, none⟩) 4 (c3 - o)) W := fun W => by simpa using cut_lh g o (N - o) (c3 - o) 0 4 (by omega) (by omega) (by omega) (by omega) W
      have k4 : ∀ W, (Instr.slice 27 (.slice (some ⟨g, o, none⟩) (N - o) (c3 - o)) (some (.int .i64 4)) (some (.int .i64 8)) none).run Try.prog W = .ok (.slice (some ⟨g, o + 4, none⟩) 4 (c3 - o - 4)) W := fun W => by simpa using cut_lh g o (N - o) (c3 - o) 4 8 (by omega) (by omega) (by omega) (by omega) W
      have k5 : ∀ W, (Instr.slice 27 (.slice (some ⟨g, o, none⟩) (N - o) (c3 - o)) (some (.int .i64 8)) (some (.int .i64 12)) none).run Try.prog W = .ok (.slice (some ⟨g, o + 8, none⟩) 4 (c3 - o - 8)) W := fun W => by simpa using cut_lh g o (N - o) (c3 - o) 8 12 (by omega) (by omega) (by omega) (by omega) W
      have k6 : ∀ W, (Instr.slice 27 (.slice (some ⟨g, o, none⟩) (N - o) (c3 - o)) (some (.int .i64 12)) none none).run Try.prog W = .ok (.slice (some ⟨g, o + 12, none⟩) (N - o - 12) (c3 - o - 12)) W := fun W => by simpa using cut_l g o (N - o) (c3 - o) 12 (by omega) (by omega) (by omega) W
      clear hcl
      go_wp2_with fail
      generalize wr.alloc (.cells #[.int .i64 x.b, .int .i64 x.n, .int .i64 x.k, .string x.s] 78) = wx at *
      clear e0 e1 e2 e3
      have q0 : wx.cell? ⟨wr.heap.size, 0, none⟩ = some (.int .i64 x.b) := (blk_cell HBX.out 0).trans rfl
      have q2 : wx.cell? ⟨wr.heap.size, 2, none⟩ = some (.int .i64 x.k) := (blk_cell HBX.out 2).trans rfl
      have qs : wx.cell? ⟨b, 2, none⟩ = some (.int .i64 size) := (blk_cell (blk_below HH.out HBW.out) 2).trans rfl
      refine wp_region_segs (by kernel_rfl) [(false, [0, 1, 3, 4, 5, 2, 6, 7, 8, 9])] (by decide) (by kernel_rfl) ?_
      simp only [wpSegs, pickOps, List.getElem?_toArray, List.getElem?_cons_succ, List.getElem?_cons_zero, Bool.false_eq_true, false_implies, true_and, forall_const]
      go_wp2_with fail
      refine ⟨rfl, by kernel_rfl, ?_⟩
      go_wp2_with fail
      refine wp_region_segs (by kernel_rfl) [(false, [0, 1, 2, 3, 4])] (by decide) (by kernel_rfl) ?_
      simp only [wpSegs, pickOps, List.getElem?_toArray, List.getElem?_cons_succ, List.getElem?_cons_zero, Bool.false_eq_true, false_implies, true_and, forall_const]
      go_wp2_with fail
      refine (put_any w1.heap.size g N c3 o 4 (c3 - o) xs x.k wx.drew.drew HOX.out (by rw [HL.out]; omega) (by omega) (by omega) (by omega)).mono ?_
      rintro e wA ⟨rfl, ho, hg⟩
      have HOA := Aside0.mk ho
      have HBA : Aside0 (Below w1.heap.size w1 wA) := ⟨pw_below_grown (show Below w1.heap.size w1 (wx.drew.drew) from by repeat (first | exact HBW.out | apply below_drew1)) _ HBW.out.size hg (fun k e => by cases e; exact HG0.out.1)⟩
      have BXA : Aside0 (wA.heap[wr.heap.size]? = some (.cells #[.int .i64 x.b, .int .i64 x.n, .int .i64 x.k, .string x.s] 78 (0, 0))) := ⟨blk_grown (w := wx.drew.drew) HBX.out hg (fun e => HGB.out (Option.some.inj e))⟩
      clear ho hg
      clear q0 q2 qs
      have q1 : wA.cell? ⟨wr.heap.size, 1, none⟩ = some (.int .i64 x.n) := (blk_cell BXA.out 1).trans rfl
      go_wp2_with fail
      refine ⟨rfl, by kernel_rfl, ?_⟩
      go_wp2_with fail
      refine wp_region_segs (by kernel_rfl) [(false, [0, 1, 2, 3, 4])] (by decide) (by kernel_rfl) ?_
      simp only [wpSegs, pickOps, List.getElem?_toArray, List.getElem?_cons_succ, List.getElem?_cons_zero, Bool.false_eq_true, false_implies, true_and, forall_const]
      go_wp2_with fail
      refine (put_any w1.heap.size g N c3 (o + 4) 4 (c3 - o - 4) _ x.n wA.drew HOA.out (by rw [over_length, HL.out]; omega) (by omega) (by omega) (by omega)).mono ?_
      rintro e wB ⟨rfl, ho, hg⟩
      have HOB := Aside0.mk ho
      have HBB : Aside0 (Below w1.heap.size w1 wB) := ⟨pw_below_grown (show Below w1.heap.size w1 (wA.drew) from by repeat (first | exact HBA.out | apply below_drew1)) _ HBA.out.size hg (fun k e => by cases e; exact HG0.out.1)⟩
      have BXB : Aside0 (wB.heap[wr.heap.size]? = some (.cells #[.int .i64 x.b, .int .i64 x.n, .int .i64 x.k, .string x.s] 78 (0, 0))) := ⟨blk_grown (w := wA.drew) BXA.out hg (fun e => HGB.out (Option.some.inj e))⟩
      clear ho hg
      clear q1
      have q2 : wB.cell? ⟨wr.heap.size, 2, none⟩ = some (.int .i64 x.k) := (blk_cell BXB.out 2).trans rfl
      have HK := Aside0.mk xk
      have HFF := Aside0.mk xf
      clear xk xf
      by_cases h1 : x.k = 1
      · have h1b : (x.k == 1) = true := by simpa using h1
        have hm12 : 12 + x.s.size ≤ m := by
          rcases HFF.out with h | h
          · omega
          · omega
        have H1 := Aside0.mk h1
        clear h1
        have HFO2 : Aside0 ((es.take (k + 1)).foldl (wrE size) (hdrP size E N) = over (over (over (over xs o (leB 4 x.k)) (o + 4) (leB 4 x.n)) (o + 8) (leB 4 (x.s.size : Int))) (o + 12) (numsS x.s)) := ⟨by rw [HFO.out, wrE, if_pos H1.out, HOT.out]⟩
        have q3 : wB.cell? ⟨wr.heap.size, 3, none⟩ = some (.string x.s) := (blk_cell BXB.out 3).trans rfl
        go_wp2_with fail
        refine ⟨rfl, by kernel_rfl, ?_⟩
        go_wp2_with fail
        refine wp_region_segs (by kernel_rfl) [(false, [0, 1, 2, 3, 4, 5])] (by decide) (by kernel_rfl) ?_
        simp only [wpSegs, pickOps, List.getElem?_toArray, List.getElem?_cons_succ, List.getElem?_cons_zero, Bool.false_eq_true, false_implies, true_and, forall_const]
        go_wp2_with fail
        refine (put_any w1.heap.size g N c3 (o + 8) 4 (c3 - o - 8) _ (x.s.size : Int) wB.drew HOB.out (by rw [over_length, over_length, HL.out]; omega) (by omega) (by omega) (by omega)).mono ?_
        rintro e wC ⟨rfl, ho, hg⟩
        have HOC := Aside0.mk ho
        have HBC : Aside0 (Below w1.heap.size w1 wC) := ⟨pw_below_grown (show Below w1.heap.size w1 (wB.drew) from by repeat (first | exact HBB.out | apply below_drew1)) _ HBB.out.size hg (fun k e => by cases e; exact HG0.out.1)⟩
        have BXC : Aside0 (wC.heap[wr.heap.size]? = some (.cells #[.int .i64 x.b, .int .i64 x.n, .int .i64 x.k, .string x.s] 78 (0, 0))) := ⟨blk_grown (w := wB.drew) BXB.out hg (fun e => HGB.out (Option.some.inj e))⟩
        clear ho hg
        clear q2 q3
        have q3 : wC.cell? ⟨wr.heap.size, 3, none⟩ = some (.string x.s) := (blk_cell BXC.out 3).trans rfl
        obtain ⟨wD, hrun, hoD, hgD⟩ := own_copy (w := wC.drew) (m := N - o - 12) (c2 := c3 - o - 12) (o := o + 12) HOC.out x.s (by rw [over_length, over_length, over_length, HL.out]; omega) (by omega)
        have HOD := Aside0.mk hoD
        have HBD : Aside0 (Below w1.heap.size w1 wD) := ⟨pw_below_grown (show Below w1.heap.size w1 wC.drew from by repeat (first | exact HBC.out | apply below_drew1)) _ HBC.out.size hgD (fun k e => by cases e; exact HG0.out.1)⟩
        have HRUN := Aside0.mk hrun
        clear hoD hgD hrun
        go_wp2_with fail
        refine ⟨rfl, by kernel_rfl, ?_⟩
        go_wp2_with fail
        refine wp_region_segs (by kernel_rfl) [(false, [0, 1, 2, 3, 4])] (by decide) (by kernel_rfl) ?_
        simp only [wpSegs, pickOps, List.getElem?_toArray, List.getElem?_cons_succ, List.getElem?_cons_zero, Bool.false_eq_true, false_implies, true_and, forall_const]
        go_wp2_with (refine wpList_copyS wC.drew (by rfl) _ _ 27 9 (by rfl) _ _ (by rfl) (by rfl) HRUN.out ?_)
        refine ⟨rfl, by kernel_rfl, ?_⟩
        go_wp2_with fail
        go_roundw
        case rel => exact ⟨k + 1, by go_num, by omega, ⟨by rw [HFO2.out]; exact HOD.out⟩, HBD⟩
        case measure => simp [intOf]; omega
      · have h1b : (x.k == 1) = false := by simpa using h1
        have HFO2 : Aside0 ((es.take (k + 1)).foldl (wrE size) (hdrP size E N) = over (over xs o (leB 4 x.k)) (o + 4) (leB 4 x.n)) := ⟨by rw [HFO.out, wrE, if_neg h1, HOT.out]⟩
        have H1 := Aside0.mk h1
        clear h1
        go_wp2_with fail
        refine ⟨rfl, by kernel_rfl, ?_⟩
        go_wp2_with fail
        go_roundw
        case rel => exact ⟨k + 1, by go_num, by omega, ⟨by rw [HFO2.out]; exact HOB.out⟩, HBB⟩
        case measure => simp [intOf]; omega
    · obtain rfl : k = es.length := by omega
      have HFIN : Aside0 (OwnB wr w1.heap.size (.slice (some ⟨g, 0, none⟩) N c3) (bytesP size es)) := ⟨by
        have h := HO.out
        rw [List.take_length] at h
        rw [bytesP, HEQ.out, show (E * size).toNat = N by have := HNN.out; rw [HEQ.out] at this; omega]
        exact h⟩
      have HLK := Aside0.mk (blk_below HH.out HB.out)
      go_wp2_with fail
      refine leaves_cons (f := 41) (args := #[.pointer (some ⟨b, 0, none⟩)]) (by simp) (by simp [go_sem]) ?_
      refine (unlock_deferred muLib ⟨b, 0, none⟩ .returning _ ((blk_cell HLK.out 0).trans rfl) (blk_frozen HLK.out 0)).mono ?_
      rintro e u' w'' ⟨rfl, rfl, rfl⟩
      refine ⟨_, results_tmp rfl _ _ _, _, rfl, ?_, below_locked HM.out (by rw [HW1.out, ← HS.out]; exact HB.out)⟩
      rw [← HS.out]
      exact Kd.R_set HFIN.out HLK.out (by simp [Kd.int, Kd.scalar]) 0 _
end Go.Proofs.Ytdadhificeplmaa

/- The reference's memo in memory; blocks, begin. -/
set_option linter.unusedVariables false
set_option linter.unusedSimpArgs false
namespace Go.Proofs.Ytdadhificeplmaa
open Go.RowKit Go.Proofs.YtdadhificeplmaaW.PrintWords Go.Proofs.YtdadhificeplmaaW.PrintLast Go.Proofs.YtdadhificeplmaaW.PrintMore Go.Proofs.Cab
open PAll (S87 k87 z87 k87_openM k87_mkM)
def RefAt (W : World) (g : Nat) (size : Int) (v : Value) : Prop := W.heap[g]? = some (.cells #[.int .i64 size, v] 85 (0, 0))
theorem info87 : (Try.prog.info? 87).map (fun i => (i.zero, i.size, i.bytes)) = some (some (.agg #[.int .i64 0, .bool false, .string ⟨#[]⟩]), 3, 32) := by kernel_rfl
theorem at_R {w : World} {base : Nat} {ok : Nat → Prop} {v : Value} {xs : List S87} (h : Kd.R k87 87 w base ok v xs) (k : Nat) (hk : k < xs.length) :
    ∃ g cap, v = .slice (some ⟨g, 0, none⟩) xs.length cap ∧ ok g ∧ base ≤ g ∧ g < w.heap.size ∧ w.cell? ⟨g, k * 3, none⟩ = some (.int .i64 xs[k].f0) ∧ w.cell? ⟨g, k * 3 + 1, none⟩ = some (.bool xs[k].f1) ∧ w.cell? ⟨g, k * 3 + 2, none⟩ = some (.string xs[k].f2) := by
  obtain ⟨g, cap, rfl, hb, hg, _⟩ := Kd.R_form h (by omega)
  obtain ⟨c, hcl, hM, hc, hf⟩ := Kd.R_elem h z87 (k : Int) (by omega) (by omega)
  have hp : xs.getD (k : Int).toNat z87 = xs[k] := by simp [List.getD_eq_getElem?_getD, List.getElem?_eq_getElem hk]
  rw [hp] at hM
  obtain rfl := k87_openM hM
  have hsz : k87.sz = 3 := rfl
  have e0 := hc 0 _ rfl
  have e1 := hc 1 _ rfl
  have e2 := hc 2 _ rfl
  simp only [hsz, Int.toNat_natCast, Nat.add_zero] at e0 e1 e2
  exact ⟨g, cap, rfl, h.1 g rfl, hb, hg, e0, e1, e2⟩
def sumN : List S87 → Int
  | [] => 0
  | x :: l => x.f0 + sumN l
theorem sumN_append : ∀ (l m : List S87), sumN (l ++ m) = sumN l + sumN m
  | [], m => by simp [sumN]
  | x :: l, m => by rw [List.cons_append, sumN, sumN, sumN_append l m]; omega
theorem sumN_bd : ∀ (l : List S87), (∀ x ∈ l, 0 ≤ x.f0 ∧ x.f0 ≤ 100000000) → 0 ≤ sumN l ∧ sumN l ≤ 100000000 * (l.length : Int)
  | [], _ => by simp [sumN]
  | x :: l, h => by
    have h1 := h x List.mem_cons_self
    have h2 := sumN_bd l (fun y hy => h y (List.mem_cons_of_mem _ hy))
    rw [sumN, List.length_cons]
    push_cast
    omega
theorem sumN_take {l : List S87} {k : Nat} (h : k < l.length) : sumN (l.take (k + 1)) = sumN (l.take k) + l[k].f0 := by
  rw [List.take_succ_eq_append_getElem h, sumN_append]
  simp [sumN]
set_option maxHeartbeats 4000000 in
set_option maxRecDepth 100000 in
theorem blocks_any (base g : Nat) (ok : Nat → Prop) (size : Int) (v : Value) (l : List S87) (w : World) (hM : RefAt w g size v) (hR : Kd.R k87 87 w base ok v l) (hn : l.length ≤ 100000) (he : ∀ x ∈ l, 0 ≤ x.f0 ∧ x.f0 ≤ 100000000) :
    Calls Try.prog 59 #[.pointer (some ⟨g, 0, none⟩)] w fun e w' => e = .returned (.int .i64 (1 + sumN l)) ∧ w' = w := by
  have HR := Aside0.mk hR
  have HE := Aside0.mk he
  have hc : w.cell? ⟨g, 1, none⟩ = some v := (blk_cell hM 1).trans rfl
  obtain ⟨A, c, rfl⟩ := Kd.R_slice hR
  clear hR hM he
  go_enter Try.func59, Try.ntmps59
  go_wp2_with fail
  go_loop [3, 4] (fun v3 v4 => ∃ k : Nat, v4 = .int .i64 (k : Int) ∧ k ≤ l.length ∧ v3 = .int .i64 (1 + sumN (l.take k))) (fun v3 v4 => ((l.length : Int) - intOf v4).toNat)
  case atStart => exact ⟨0, rfl, by omega, rfl⟩
  case round =>
    obtain ⟨k, rfl, hk, rfl⟩ := hrel
    by_cases hlt : k < l.length
    · obtain ⟨g2, cap, hv, _, _, hg2, e0, e1, e2⟩ := at_R HR.out k hlt
      injection hv with hv1 hv2 hv3
      subst hv1 hv3
      have hb := sumN_bd (l.take k) (fun x hx => HE.out x (List.mem_of_mem_take hx))
      rw [List.length_take, Nat.min_eq_left hk] at hb
      have hb2 := HE.out l[k] (List.getElem_mem hlt)
      have HT := Aside0.mk (sumN_take hlt)
      obtain ⟨x, hx⟩ : ∃ x, l[k] = x := ⟨_, rfl⟩
      obtain ⟨s, hs⟩ : ∃ s, sumN (l.take k) = s := ⟨_, rfl⟩
      rw [hx] at e0 e1 e2 HT hb2
      rw [hs] at hb HT ⊢
      obtain ⟨s1, s2⟩ := hb
      obtain ⟨x1, x2⟩ := hb2
      have s3 : s ≤ 10000000000000 := by omega
      clear s2 hx hs
      go_wp2_with fail
      go_round
      case rel => exact ⟨k + 1, by go_num, by omega, by rw [HT.out, Int.add_assoc]⟩
      case measure => simp [intOf]; omega
    · obtain rfl : k = l.length := by omega
      rw [List.take_length]
      go_wp2_with fail
      go_ret
      exact ⟨rfl, rfl⟩
set_option maxHeartbeats 4000000 in
set_option maxRecDepth 100000 in
theorem begin_any (base g : Nat) (ok : Nat → Prop) (size : Int) (v : Value) (l : List S87) (n : Nat) (w : World) (hM : RefAt w g size v) (hR : Kd.R k87 87 w base ok v l) (hn : l.length ≤ 100000) (he : ∀ x ∈ l, 0 ≤ x.f0 ∧ x.f0 ≤ 100000000) (hnl : n ≤ l.length) :
    Calls Try.prog 44 #[.pointer (some ⟨g, 0, none⟩), .int .i64 (n : Int)] w fun e w' => e = .returned (.int .i64 (1 + sumN (l.take n))) ∧ w' = w := by
  have HR := Aside0.mk hR
  have HE := Aside0.mk he
  have hc : w.cell? ⟨g, 1, none⟩ = some v := (blk_cell hM 1).trans rfl
  obtain ⟨A, c, rfl⟩ := Kd.R_slice hR
  clear hR hM he
  go_enter Try.func44, Try.ntmps44
  go_wp2_with fail
  go_loop [5, 6] (fun v3 v4 => ∃ k : Nat, v4 = .int .i64 (k : Int) ∧ k ≤ n ∧ v3 = .int .i64 (1 + sumN (l.take k))) (fun v3 v4 => ((n : Int) - intOf v4).toNat)
  case atStart => exact ⟨0, rfl, by omega, rfl⟩
  case round =>
    obtain ⟨k, rfl, hk, rfl⟩ := hrel
    by_cases hltn : k < n
    · have hlt : k < l.length := by omega
      obtain ⟨g2, cap, hv, _, _, hg2, e0, e1, e2⟩ := at_R HR.out k hlt
      injection hv with hv1 hv2 hv3
      subst hv1 hv3
      have hb := sumN_bd (l.take k) (fun x hx => HE.out x (List.mem_of_mem_take hx))
      rw [List.length_take, Nat.min_eq_left (by omega)] at hb
      have hb2 := HE.out l[k] (List.getElem_mem hlt)
      have HT := Aside0.mk (sumN_take hlt)
      obtain ⟨x, hx⟩ : ∃ x, l[k] = x := ⟨_, rfl⟩
      obtain ⟨s, hs⟩ : ∃ s, sumN (l.take k) = s := ⟨_, rfl⟩
      rw [hx] at e0 e1 e2 HT hb2
      rw [hs] at hb HT ⊢
      obtain ⟨s1, s2⟩ := hb
      obtain ⟨x1, x2⟩ := hb2
      have s3 : s ≤ 10000000000000 := by omega
      clear s2 hx hs
      go_wp2_with fail
      go_round
      case rel => exact ⟨k + 1, by go_num, by omega, by rw [HT.out, Int.add_assoc]⟩
      case measure => simp [intOf]; omega
    · obtain rfl : k = n := by omega
      go_wp2_with fail
      go_ret
      exact ⟨rfl, rfl⟩
end Go.Proofs.Ytdadhificeplmaa

/- The reference's Bytes. -/
set_option linter.unusedVariables false
set_option linter.unusedSimpArgs false
namespace Go.Proofs.Ytdadhificeplmaa
open Go.RowKit Go.Proofs.YtdadhificeplmaaW.PrintWords Go.Proofs.YtdadhificeplmaaW.PrintLast Go.Proofs.YtdadhificeplmaaW.PrintMore Go.Proofs.Cab
open PAll (S87 k87 z87 k87_openM k87_mkM)
section
variable {ops : Array Oper} {o : Oper} {a : Act} {Q : Exit → Act → World → Prop} {Kc : Act → World → Prop}
theorem appRowB_step {w0 W : World} (base : Nat) (hw : Region.wanted o (yielded ops a.tmps) = true) (s x : Operand) (ho : o.op = .call { callee := .builtin .append, args := #[s, x], argTypes := #[27, 27] })
    (v : Value) (xs ys : List Int) (A : Option Addr) (m c : Nat) (hs : a.eval s = v) (hx : a.eval x = .slice A m c) (HO : OwnB W base v xs) (HR : Kd.C (Kd.int .u8) W A m ys) (HB : Below base w0 W) (hbase : base ≤ W.heap.size) (hl : xs.length + m < 17592186044415)
    (h : ∀ v1 w1, OwnB w1 base v1 (xs ++ ys) → Below base w0 w1 → W.grownBy w1 v.ownBlock → Kc (a.put o.dst v1) w1) :
    if Region.wanted o (yielded ops a.tmps) = true then Oper.wp Try.prog o a W Kc Q else Kc (a.put o.dst undef) W :=
  Kd.R_append_rows_step (Kd.int .u8) (Rr := fun x cs => cs = [.int .u8 x]) (w0 := w0) base hw s x 27 5 (.int .u8 0) 1 ho Try.underlying27 info5 rfl (by decide) (by decide) v xs ys A m c (fun _ => True) (fun _ => False) hs hx HO HR (fun x cs hc => hc) (fun _ hk => hk.elim) (fun _ _ => trivial) HB hbase (by omega)
    fun v1 w1 ho hb hg _ => h v1 w1 ho hb hg
end
theorem C_lit2 (W : World) (a b : Int) : Kd.C (Kd.int .u8) (W.alloc (.cells #[.int .u8 a, .int .u8 b] 5)) (some ⟨W.heap.size, 0, none⟩) 2 [a, b] := by
  have h : Kd.R (Kd.int .u8) 5 (W.alloc (.cells #[.int .u8 a, .int .u8 b] 5)) W.heap.size (fun _ => True) (.slice (some ⟨W.heap.size, 0, none⟩) 2 2) [a, b] :=
    Kd.R_of_own (World.ownsRow_lit (base := W.heap.size) (e := 5) (size := 1) W #[.int .u8 a, .int .u8 b] 2 (Nat.le_refl _) (by decide) (by simp)) (fun _ _ => trivial)
  exact (Kd.R_reads' h).2.2
/-- append(v, s...), s a string. -/
theorem appStr_step {ops : Array Oper} {o : Oper} {a : Act} {Q : Exit → Act → World → Prop} {Kc : Act → World → Prop} {w0 W : World} (base : Nat) (hw : Region.wanted o (yielded ops a.tmps) = true) (s x : Operand) (ho : o.op = .call { callee := .builtin .append, args := #[s, x], argTypes := #[27, 9] })
    (v : Value) (xs : List Int) (y : ByteArray) (hs : a.eval s = v) (hx : a.eval x = .string y) (HO : OwnB W base v xs) (HB : Below base w0 W) (hbase : base ≤ W.heap.size) (hl : xs.length + y.size ≤ 140737488355328)
    (h : ∀ v1 w1, OwnB w1 base v1 (xs ++ numsS y) → Below base w0 w1 → W.grownBy w1 v.ownBlock → Kc (a.put o.dst v1) w1) :
    if Region.wanted o (yielded ops a.tmps) = true then Oper.wp Try.prog o a W Kc Q else Kc (a.put o.dst undef) W := by
  obtain ⟨i0, hi, hzz⟩ := Option.map_eq_some_iff.1 info5
  simp only [Prod.mk.injEq] at hzz
  obtain ⟨hz0, hz1, hz2⟩ := hzz
  obtain ⟨v1, w1, hr, h2, h3, _⟩ := Go.Lib.run_append_own_string (P := Try.prog) W base 27 9 o.type 5 i0 Try.underlying27 (by kernel_rfl) hi hz0 hz1 hz2 v xs.length (nums .u8 xs) (Kd.own_of_R HO) y (by simp only [maxLen]; omega) hl hbase
  refine event_step hw (v := v1) (w1 := w1) ?_ (h v1 w1 (Kd.R_of_own ?_ (fun _ _ => trivial)) (pw_below_grown HB _ hbase h3 (fun k e => Kd.R_base HO k e)) h3)
  · unfold execOp
    simp only [ho, resolve, invoke, builtin, Sem.run_bind, Sem.run_pure, Result.andThen_ok, List.map_toArray, List.map_cons, List.map_nil, hs, hx, hr]
  · rw [List.length_append, numsS_length]
    have e : encs (Value.int .u8) (xs ++ numsS y) = nums .u8 xs ++ Go.Lib.strCells y := by
      simp [encs, nums, Go.Lib.strCells, numsS]
    rw [e]
    exact h2
def FitsR (size : Int) (l : List S87) : Prop := ∀ x ∈ l, (1 ≤ x.f0 ∧ x.f0 ≤ 4096) ∧ x.f2.size ≤ 2048 ∧ (12 + (x.f2.size : Int) ≤ x.f0 * size ∨ x.f1 = true)
def encR (size : Int) (x : S87) : List Int := fillTo (if x.f1 then fourF 0 ++ fourF x.f0 else fourF 1 ++ fourF x.f0 ++ fourF (x.f2.size : Int) ++ numsS x.f2) (x.f0 * size).toNat
def hdrR (size B : Int) : List Int := fillTo (fourF B ++ [size % 256, size / 256 % 256]) size.toNat
def bytesR (size : Int) (l : List S87) : List Int := hdrR size (1 + sumN l) ++ l.flatMap (encR size)
theorem encR_length (size : Int) (x : S87) (hz : 16 ≤ size) (hx : 1 ≤ x.f0) (h : 12 + (x.f2.size : Int) ≤ x.f0 * size ∨ x.f1 = true) : (encR size x).length = (x.f0 * size).toNat := by
  have h1 : 1 * size ≤ x.f0 * size := Int.mul_le_mul_of_nonneg_right hx (by omega)
  unfold encR
  refine fillTo_length _ _ ?_
  cases hb : x.f1
  · rcases h with h | h
    · simp [fourF, numsS_length]; omega
    · simp [hb] at h
  · simp [fourF]; omega
theorem hdrR_length (N : Nat) (B : Int) (h : 16 ≤ (N : Int)) : (hdrR N B).length = N := by
  rw [hdrR, fillTo_length _ _ (by simp [fourF]; omega)]
  rfl
theorem flat_bd (size : Int) (hz : 16 ≤ size ∧ size ≤ 256) : ∀ l : List S87, FitsR size l → (l.flatMap (encR size)).length ≤ 1048576 * l.length
  | [], _ => by simp
  | x :: l, h => by
    have h1 := flat_bd size hz l (fun y hy => h y (List.mem_cons_of_mem _ hy))
    have h2 := h x List.mem_cons_self
    have h3 : x.f0 * size ≤ 4096 * 256 := Int.mul_le_mul h2.1.2 hz.2 (by omega) (by omega)
    rw [List.flatMap_cons, List.length_append, encR_length size x hz.1 h2.1.1 h2.2.2, List.length_cons]
    omega
theorem flat_take (size : Int) {l : List S87} {k : Nat} (h : k < l.length) : (l.take (k + 1)).flatMap (encR size) = (l.take k).flatMap (encR size) ++ encR size l[k] := by
  rw [List.take_succ_eq_append_getElem h, List.flatMap_append]
  simp
theorem keepR {w w' : World} {g : Nat} {size : Int} {v : Value} (hM : RefAt w g size v) (hb : Below w.heap.size w w') : w'.cell? ⟨g, 0, none⟩ = some (.int .i64 size) ∧ Below w.heap.size w w' := ⟨(blk_cell (blk_below hM hb) 0).trans rfl, hb⟩
theorem keepX {wx w' : World} {b : Nat} {n : Int} {f : Bool} {s : ByteArray} (h : wx.heap[b]? = some (.cells #[.int .i64 n, .bool f, .string s] 87 (0, 0))) (hb : Below wx.heap.size wx w') : w'.cell? ⟨b, 2, none⟩ = some (.string s) ∧ Below wx.heap.size wx w' := ⟨(blk_cell (blk_below h hb) 2).trans rfl, hb⟩
set_option maxHeartbeats 4000000 in
set_option maxRecDepth 100000 in
theorem BytesR_any (base g : Nat) (ok : Nat → Prop) (size : Int) (v : Value) (l : List S87) (w : World) (hM : RefAt w g size v) (hR : Kd.R k87 87 w base ok v l) (hn : l.length ≤ 4096) (hz : 16 ≤ size ∧ size ≤ 256) (hF : FitsR size l) :
    Calls Try.prog 29 #[.pointer (some ⟨g, 0, none⟩)] w fun e w' => ∃ v', e = .returned v' ∧ OwnB w' w.heap.size v' (bytesR size l) ∧ Below w.heap.size w w' := by
  have HR := Aside0.mk hR
  have HM := Aside0.mk hM
  have HF := Aside0.mk hF
  have he : ∀ x ∈ l, 0 ≤ x.f0 ∧ x.f0 ≤ 100000000 := fun x hx => by have := (hF x hx).1; omega
  obtain ⟨z1, z2⟩ := hz
  obtain ⟨B, hB⟩ : ∃ B, 1 + sumN l = B := ⟨_, rfl⟩
  have BL : Aside0 (∀ w', Below w.heap.size w w' → Calls Try.prog 59 #[.pointer (some ⟨g, 0, none⟩)] w' fun e w'' => e = .returned (.int .i64 B) ∧ w'' = w') := ⟨fun w' hb => by rw [← hB]; exact blocks_any base g ok size v l w' (blk_below hM hb) (Kd.R_below hR hb) (by omega) he⟩
  have HBB := Aside0.mk hB
  have hc : w.cell? ⟨g, 0, none⟩ = some (.int .i64 size) := (blk_cell hM 0).trans rfl
  have hS : w.cell? ⟨g, 0, none⟩ = some (.int .i64 size) ∧ Below w.heap.size w w := keepR hM (Below.refl _ _)
  obtain ⟨A, c, rfl⟩ := Kd.R_slice hR
  clear hR hM he hB hF
  obtain ⟨N, rfl⟩ : ∃ N : Nat, size = (N : Int) := ⟨size.toNat, by omega⟩
  go_enter Try.func29, Try.ntmps29
  go_wp2_with fail
  go_cut [3] from 3 to 28 (fun v3 wr => Aside0 (OwnB wr w.heap.size v3 (hdrR N B)) ∧ Aside0 (Below w.heap.size w wr))
  case first =>
    go_region_held3 (fun w' => w'.cell? ⟨g, 0, none⟩ = some (.int .i64 (N : Int)) ∧ Below w.heap.size w w') (first | assumption | (refine keepR HM.out ?_; repeat (first | exact Below.refl _ _ | assumption | exact And.right (by assumption) | refine below_drew1 ?_ | refine below_alloc ?_ _ | refine below_step ?_ (by assumption : Below _ _ _) | refine Below.trans ?_ (by assumption : Below w.heap.size _ _) | fail))) (first | (go_at_call 59; refine (BL.out _ (And.right (by assumption : _ ∧ Below w.heap.size w _))).mono ?_; rintro e w' ⟨rfl, rfl⟩) | (go_at_call 58; refine (four_any B _).mono ?_; rintro e w' ⟨v4, rfl, ho, hb⟩; replace ho := Kd.R_lower ho (And.right (by assumption : _ ∧ Below w.heap.size w _)).size) | (refine appRowB_step (w0 := w) w.heap.size (by rfl) _ _ (by rfl) v4 (fourF B) [_, _] (some ⟨_, 0, none⟩) 2 2 (by rfl) (by rfl) (by first | exact ho | exact Kd.R_alloc ho _ | exact Kd.R_drew (Kd.R_alloc ho _) | fail) (by first | exact C_lit2 _ _ _ | exact Kd.C_drew (C_lit2 _ _ _) | exact Kd.C_below (C_lit2 _ _ _) hb | exact Kd.C_below (Kd.C_drew (C_lit2 _ _ _)) hb | fail) (And.right (by assumption : _ ∧ Below w.heap.size w _)) (And.right (by assumption : _ ∧ Below w.heap.size w _)).size (by simp [fourF]) ?_; intro v5 w5 ho5 hb5 hg5) | (go_at_call 57; refine (filled_any w.heap.size v5 _ N _ ho5 (And.right (by assumption : _ ∧ Below w.heap.size w _)).size (by simp [fourF]; omega) (by omega)).mono ?_; rintro e w' ⟨v6, rfl, ho6, hb6⟩))
    all_goals (
      go_wp2_with fail
      go_meet
      exact ⟨⟨ho6⟩, ⟨And.right (by assumption)⟩⟩)
  case rest =>
    obtain ⟨HO6, HB6⟩ := hcut
    have hl1 : wc.cell? ⟨g, 1, none⟩ = some (.slice A l.length c) := (blk_cell (blk_below HM.out HB6.out) 1).trans rfl
    go_wp2_with fail
    go_loopw [3, 4] (fun v3 v4 wr => ∃ k : Nat, v4 = .int .i64 (k : Int) ∧ k ≤ l.length ∧ Aside0 (OwnB wr w.heap.size v3 (hdrR N B ++ (l.take k).flatMap (encR N))) ∧ Aside0 (Below w.heap.size w wr)) (fun v3 v4 wr => ((l.length : Int) - intOf v4).toNat)
    case atStart => exact ⟨0, rfl, by omega, ⟨by simpa using HO6.out⟩, HB6⟩
    case round =>
      clear hl1
      obtain ⟨k, rfl, hk, HO, HB⟩ := hrel
      by_cases hlt : k < l.length
      · obtain ⟨g2, cap, hv, _, _, hg2, e0, e1, e2⟩ := at_R HR.out k hlt
        injection hv with hv1 hv2 hv3
        subst hv1 hv3
        have e0 := (HB.out.cell hg2).trans e0
        have e1 := (HB.out.cell hg2).trans e1
        have e2 := (HB.out.cell hg2).trans e2
        have HFO := Aside0.mk (flat_take (N : Int) hlt)
        have hxx := HF.out l[k] (List.getElem_mem hlt)
        obtain ⟨x, hx⟩ : ∃ x, l[k] = x := ⟨_, rfl⟩
        rw [hx] at e0 e1 e2 HFO hxx
        have HL : Aside0 ((hdrR N B ++ (l.take k).flatMap (encR N)).length ≤ 5000000000) := ⟨by
          have h1 := flat_bd N ⟨z1, z2⟩ (l.take k) (fun y hy => HF.out y (List.mem_of_mem_take hy))
          rw [List.length_take] at h1
          rw [List.length_append, hdrR_length N B z1]
          omega⟩
        obtain ⟨xs, hxs⟩ : ∃ xs, hdrR N B ++ (l.take k).flatMap (encR N) = xs := ⟨_, rfl⟩
        have HFO2 : Aside0 (hdrR N B ++ (l.take (k + 1)).flatMap (encR N) = xs ++ encR N x) := ⟨by rw [HFO.out, ← List.append_assoc, hxs]⟩
        rw [hxs] at HO HL
        clear hxs hx HFO
        obtain ⟨⟨xn1, xn2⟩, xs2, xf⟩ := hxx
        have hmb0 : 1 * (N : Int) ≤ x.f0 * N := Int.mul_le_mul_of_nonneg_right xn1 (by omega)
        have hmb1 : x.f0 * (N : Int) ≤ 4096 * 256 := Int.mul_le_mul xn2 z2 (by omega) (by omega)
        obtain ⟨m, hm⟩ : ∃ m : Nat, x.f0 * (N : Int) = (m : Int) := ⟨(x.f0 * N).toNat, by omega⟩
        have HXF := Aside0.mk xf
        have HMM : Aside0 ((x.f0 * (N : Int)).toNat = m) := ⟨by rw [hm]; rfl⟩
        obtain ⟨A3, c3, rfl⟩ := Kd.R_slice HO.out
        clear xf
        have hs0 : wr.cell? ⟨g, 0, none⟩ = some (.int .i64 (N : Int)) := (blk_cell (blk_below HM.out HB.out) 0).trans rfl
        have hs1 : wr.cell? ⟨g, 1, none⟩ = some (.slice (some ⟨g2, 0, none⟩) l.length c) := (blk_cell (blk_below HM.out HB.out) 1).trans rfl
        obtain ⟨fr, hfr⟩ : ∃ fr, x.f1 = fr := ⟨_, rfl⟩
        rw [hfr] at e1
        have HFR := Aside0.mk hfr
        clear hfr
        cases fr
        · have HBX : Aside0 ((wr.alloc (.cells #[.int .i64 x.f0, .bool false, .string x.f2] 87)).heap[wr.heap.size]? = some (.cells #[.int .i64 x.f0, .bool false, .string x.f2] 87 (0, 0))) := ⟨blk_new _ _⟩
          have HOX : Aside0 (OwnB (wr.alloc (.cells #[.int .i64 x.f0, .bool false, .string x.f2] 87)) w.heap.size (.slice A3 xs.length c3) xs) := ⟨Kd.R_alloc HO.out _⟩
          have HBW : Aside0 (Below w.heap.size w (wr.alloc (.cells #[.int .i64 x.f0, .bool false, .string x.f2] 87))) := ⟨below_alloc HB.out _⟩
          go_wp2_with fail
          generalize wr.alloc (.cells #[.int .i64 x.f0, .bool false, .string x.f2] 87) = wx at *
          clear e0 e1 e2 hs0 hs1
          have q0 : wx.cell? ⟨wr.heap.size, 0, none⟩ = some (.int .i64 x.f0) := (blk_cell HBX.out 0).trans rfl
          refine wp_region_segs (by kernel_rfl) [(false, [0, 2, 3]), (true, [1]), (false, [4, 5, 6])] (by decide) (by kernel_rfl) ?_
          simp only [wpSegs, pickOps, List.getElem?_toArray, List.getElem?_cons_succ, List.getElem?_cons_zero, Bool.false_eq_true, false_implies, true_and, forall_const]
          go_wp2_with fail
          refine (four_any 1 wx.drew).mono ?_
          rintro e w1 ⟨v7, rfl, ho, hb⟩
          have HV7 : Aside0 (OwnB w1 wx.heap.size v7 (fourF 1)) := ⟨ho⟩
          have HB7 : Aside0 (Below wx.heap.size wx w1) := ⟨below_step (below_drew1 (Below.refl _ _)) hb⟩
          have HE7 := Aside0.mk (ext_of_below hb)
          clear ho hb
          go_wp2_with fail
          refine ⟨HE7.out, ?_⟩
          go_wp2_with fail
          refine (four_any x.f0 w1).mono ?_
          rintro e w3 ⟨v8, rfl, ho, hb⟩
          have HB8 : Aside0 (Below wx.heap.size wx w3) := ⟨below_step HB7.out hb⟩
          have HV8 : Aside0 (OwnB w3 wx.heap.size v7 (fourF 1)) := ⟨Kd.R_below HV7.out hb⟩
          obtain ⟨A8, c8, rfl⟩ := Kd.R_slice ho
          have HC8 : Aside0 (Kd.C (Kd.int .u8) w3 A8 4 (fourF x.f0)) := ⟨(Kd.R_reads' ho).2.2⟩
          clear ho hb q0
          go_wp2_with (at_builtin; refine appRowB (w0 := wx) (W := w3) wx.heap.size (by rfl) _ _ (by rfl) v7 (fourF 1) (fourF x.f0) A8 4 c8 (by rfl) (by rfl) HV8.out HC8.out HB8.out HB8.out.size (by simp [fourF]) ?_; intro v9 w5 ho hb hg; have HV9 := Aside0.mk ho; have HB9 := Aside0.mk hb; clear ho hb hg)
          refine ⟨rfl, by kernel_rfl, ?_⟩
          have q1 : w5.cell? ⟨wr.heap.size, 1, none⟩ = some (.bool false) := (blk_cell (blk_below HBX.out HB9.out) 1).trans rfl
          go_wp2_with fail
          have hs12 : 12 + x.f2.size ≤ m := by
            rcases HXF.out with h | h
            · omega
            · rw [HFR.out] at h; cases h
          have hSS : w5.cell? ⟨wr.heap.size, 2, none⟩ = some (.string x.f2) ∧ Below wx.heap.size wx w5 := keepX HBX.out HB9.out
          go_region_held3 (fun w' => w'.cell? ⟨wr.heap.size, 2, none⟩ = some (.string x.f2) ∧ Below wx.heap.size wx w') (first | assumption | (refine keepX HBX.out ?_; repeat (first | exact Below.refl _ _ | assumption | exact And.right (by assumption) | refine below_drew1 ?_ | refine below_step ?_ (by assumption : Below _ _ _) | refine Below.trans ?_ (by assumption : Below wx.heap.size _ _) | fail))) (first | (go_at_call 58; refine (four_any (x.f2.size : Int) _).mono ?_; rintro e w' ⟨v10, rfl, ho, hb⟩; obtain ⟨A10, c10, rfl⟩ := Kd.R_slice ho) | (refine appRowB_step (w0 := wx) wx.heap.size (by rfl) _ _ (by rfl) v9 (fourF 1 ++ fourF x.f0) (fourF (x.f2.size : Int)) A10 4 c10 (by rfl) (by rfl) (OwnB.below HV9.out (below_step (below_drew1 (Below.refl _ _)) hb)) (Kd.R_reads' ho).2.2 (And.right (by assumption : _ ∧ Below wx.heap.size wx _)) (And.right (by assumption : _ ∧ Below wx.heap.size wx _)).size (by simp [fourF]) ?_; intro v11 w11 ho11 hb11 hg11) | (refine appStr_step (w0 := wx) wx.heap.size (by rfl) _ _ (by rfl) v11 _ x.f2 (by rfl) (by rfl) ho11 (And.right (by assumption : _ ∧ Below wx.heap.size wx _)) (And.right (by assumption : _ ∧ Below wx.heap.size wx _)).size (by simp [fourF]; omega) ?_; intro v12 w12 ho12 hb12 hg12))
          have HV12 := Aside0.mk ho12
          have HB12 := Aside0.mk hb12
          clear ho12 hb12 hg12 ho11 hb11 hg11 ho hb
          go_wp2_with fail
          have HXM : Aside0 ((fourF 1 ++ fourF x.f0 ++ fourF (x.f2.size : Int) ++ numsS x.f2).length ≤ m) := ⟨by simp [fourF, numsS_length]; omega⟩
          have q0 : w12.cell? ⟨wr.heap.size, 0, none⟩ = some (.int .i64 x.f0) := (blk_cell (blk_below HBX.out HB12.out) 0).trans rfl
          have qs : w12.cell? ⟨g, 0, none⟩ = some (.int .i64 (N : Int)) := (blk_cell (blk_below HM.out (below_step HBW.out HB12.out)) 0).trans rfl
          refine wp_region_segs (by kernel_rfl) [(false, [0, 1, 2, 4, 5, 6, 3, 7, 8, 9, 10, 11])] (by decide) (by kernel_rfl) ?_
          simp only [wpSegs, pickOps, List.getElem?_toArray, List.getElem?_cons_succ, List.getElem?_cons_zero, Bool.false_eq_true, false_implies, true_and, forall_const]
          go_wp2_with fail
          refine (filled_any wx.heap.size v12 (fourF 1 ++ fourF x.f0 ++ fourF (x.f2.size : Int) ++ numsS x.f2) m w12.drew (OwnB.below HV12.out (below_drew1 (Below.refl _ _))) HB12.out.size HXM.out (by omega)).mono ?_
          rintro e wF ⟨vF, rfl, ho, hb⟩
          have hfl : (fillTo (fourF 1 ++ fourF x.f0 ++ fourF (x.f2.size : Int) ++ numsS x.f2) m).length = m := fillTo_length _ _ HXM.out
          obtain ⟨AF, cF, rfl⟩ := Kd.R_slice ho
          have HBF : Aside0 (Below wx.heap.size wx wF) := ⟨(below_drew1 HB12.out).trans hb⟩
          have HCF : Aside0 (Kd.C (Kd.int .u8) wF AF (fillTo (fourF 1 ++ fourF x.f0 ++ fourF (x.f2.size : Int) ++ numsS x.f2) m).length (fillTo (fourF 1 ++ fourF x.f0 ++ fourF (x.f2.size : Int) ++ numsS x.f2) m)) := ⟨(Kd.R_reads' ho).2.2⟩
          have HOF : Aside0 (OwnB wF w.heap.size (.slice A3 xs.length c3) xs) := ⟨OwnB.below HOX.out HBF.out⟩
          have HBG : Aside0 (Below w.heap.size w wF) := ⟨below_step HBW.out HBF.out⟩
          have HFL := Aside0.mk hfl
          clear ho hb q0 qs hfl
          go_wp2_with (at_builtin; refine appRowB (w0 := w) (W := wF) w.heap.size (by rfl) _ _ (by rfl) (.slice A3 xs.length c3) xs (fillTo (fourF 1 ++ fourF x.f0 ++ fourF (x.f2.size : Int) ++ numsS x.f2) m) AF (fillTo (fourF 1 ++ fourF x.f0 ++ fourF (x.f2.size : Int) ++ numsS x.f2) m).length cF (by rfl) (by rfl) HOF.out HCF.out HBG.out HBG.out.size (by rw [HFL.out]; have := HL.out; omega) ?_; intro vZ wZ ho hb hg; have HVZ := Aside0.mk ho; have HBZ := Aside0.mk hb; clear ho hb hg)
          refine ⟨rfl, by kernel_rfl, ?_⟩
          go_wp2_with fail
          go_roundw
          case rel => exact ⟨k + 1, by go_num, by omega, ⟨by rw [HFO2.out, encR, HFR.out, HMM.out]; exact HVZ.out⟩, HBZ⟩
          case measure => simp [intOf]; omega
        · have HBX : Aside0 ((wr.alloc (.cells #[.int .i64 x.f0, .bool true, .string x.f2] 87)).heap[wr.heap.size]? = some (.cells #[.int .i64 x.f0, .bool true, .string x.f2] 87 (0, 0))) := ⟨blk_new _ _⟩
          have HOX : Aside0 (OwnB (wr.alloc (.cells #[.int .i64 x.f0, .bool true, .string x.f2] 87)) w.heap.size (.slice A3 xs.length c3) xs) := ⟨Kd.R_alloc HO.out _⟩
          have HBW : Aside0 (Below w.heap.size w (wr.alloc (.cells #[.int .i64 x.f0, .bool true, .string x.f2] 87))) := ⟨below_alloc HB.out _⟩
          go_wp2_with fail
          generalize wr.alloc (.cells #[.int .i64 x.f0, .bool true, .string x.f2] 87) = wx at *
          clear e0 e1 e2 hs0 hs1
          have q0 : wx.cell? ⟨wr.heap.size, 0, none⟩ = some (.int .i64 x.f0) := (blk_cell HBX.out 0).trans rfl
          refine wp_region_segs (by kernel_rfl) [(false, [0, 2, 3]), (true, [1]), (false, [4, 5, 6])] (by decide) (by kernel_rfl) ?_
          simp only [wpSegs, pickOps, List.getElem?_toArray, List.getElem?_cons_succ, List.getElem?_cons_zero, Bool.false_eq_true, false_implies, true_and, forall_const]
          go_wp2_with fail
          refine (four_any 0 wx.drew).mono ?_
          rintro e w1 ⟨v7, rfl, ho, hb⟩
          have HV7 : Aside0 (OwnB w1 wx.heap.size v7 (fourF 0)) := ⟨ho⟩
          have HB7 : Aside0 (Below wx.heap.size wx w1) := ⟨below_step (below_drew1 (Below.refl _ _)) hb⟩
          have HE7 := Aside0.mk (ext_of_below hb)
          clear ho hb
          go_wp2_with fail
          refine ⟨HE7.out, ?_⟩
          go_wp2_with fail
          refine (four_any x.f0 w1).mono ?_
          rintro e w3 ⟨v8, rfl, ho, hb⟩
          have HB8 : Aside0 (Below wx.heap.size wx w3) := ⟨below_step HB7.out hb⟩
          have HV8 : Aside0 (OwnB w3 wx.heap.size v7 (fourF 0)) := ⟨Kd.R_below HV7.out hb⟩
          obtain ⟨A8, c8, rfl⟩ := Kd.R_slice ho
          have HC8 : Aside0 (Kd.C (Kd.int .u8) w3 A8 4 (fourF x.f0)) := ⟨(Kd.R_reads' ho).2.2⟩
          clear ho hb q0
          go_wp2_with (at_builtin; refine appRowB (w0 := wx) (W := w3) wx.heap.size (by rfl) _ _ (by rfl) v7 (fourF 0) (fourF x.f0) A8 4 c8 (by rfl) (by rfl) HV8.out HC8.out HB8.out HB8.out.size (by simp [fourF]) ?_; intro v9 w5 ho hb hg; have HV9 := Aside0.mk ho; have HB9 := Aside0.mk hb; clear ho hb hg)
          refine ⟨rfl, by kernel_rfl, ?_⟩
          have q1 : w5.cell? ⟨wr.heap.size, 1, none⟩ = some (.bool true) := (blk_cell (blk_below HBX.out HB9.out) 1).trans rfl
          go_wp2_with fail
          have HXM : Aside0 ((fourF 0 ++ fourF x.f0).length ≤ m) := ⟨by simp [fourF]; omega⟩
          have q0 : w5.cell? ⟨wr.heap.size, 0, none⟩ = some (.int .i64 x.f0) := (blk_cell (blk_below HBX.out HB9.out) 0).trans rfl
          have qs : w5.cell? ⟨g, 0, none⟩ = some (.int .i64 (N : Int)) := (blk_cell (blk_below HM.out (below_step HBW.out HB9.out)) 0).trans rfl
          refine wp_region_segs (by kernel_rfl) [(false, [0, 1, 2, 4, 5, 6, 3, 7, 8, 9, 10, 11])] (by decide) (by kernel_rfl) ?_
          simp only [wpSegs, pickOps, List.getElem?_toArray, List.getElem?_cons_succ, List.getElem?_cons_zero, Bool.false_eq_true, false_implies, true_and, forall_const]
          go_wp2_with fail
          refine (filled_any wx.heap.size v9 (fourF 0 ++ fourF x.f0) m w5.drew (OwnB.below HV9.out (below_drew1 (Below.refl _ _))) HB9.out.size HXM.out (by omega)).mono ?_
          rintro e wF ⟨vF, rfl, ho, hb⟩
          have hfl : (fillTo (fourF 0 ++ fourF x.f0) m).length = m := fillTo_length _ _ HXM.out
          obtain ⟨AF, cF, rfl⟩ := Kd.R_slice ho
          have HBF : Aside0 (Below wx.heap.size wx wF) := ⟨(below_drew1 HB9.out).trans hb⟩
          have HCF : Aside0 (Kd.C (Kd.int .u8) wF AF (fillTo (fourF 0 ++ fourF x.f0) m).length (fillTo (fourF 0 ++ fourF x.f0) m)) := ⟨(Kd.R_reads' ho).2.2⟩
          have HOF : Aside0 (OwnB wF w.heap.size (.slice A3 xs.length c3) xs) := ⟨OwnB.below HOX.out HBF.out⟩
          have HBG : Aside0 (Below w.heap.size w wF) := ⟨below_step HBW.out HBF.out⟩
          have HFL := Aside0.mk hfl
          clear ho hb q0 qs hfl
          go_wp2_with (at_builtin; refine appRowB (w0 := w) (W := wF) w.heap.size (by rfl) _ _ (by rfl) (.slice A3 xs.length c3) xs (fillTo (fourF 0 ++ fourF x.f0) m) AF (fillTo (fourF 0 ++ fourF x.f0) m).length cF (by rfl) (by rfl) HOF.out HCF.out HBG.out HBG.out.size (by rw [HFL.out]; have := HL.out; omega) ?_; intro vZ wZ ho hb hg; have HVZ := Aside0.mk ho; have HBZ := Aside0.mk hb; clear ho hb hg)
          refine ⟨rfl, by kernel_rfl, ?_⟩
          go_wp2_with fail
          go_roundw
          case rel => exact ⟨k + 1, by go_num, by omega, ⟨by rw [HFO2.out, encR, HFR.out, HMM.out]; exact HVZ.out⟩, HBZ⟩
          case measure => simp [intOf]; omega
      · obtain rfl : k = l.length := by omega
        have hs1 : wr.cell? ⟨g, 1, none⟩ = some (.slice A l.length c) := (blk_cell (blk_below HM.out HB.out) 1).trans rfl
        go_wp2_with fail
        go_ret
        refine ⟨_, rfl, ?_, HB.out⟩
        have h := HO.out
        rw [List.take_length] at h
        rw [bytesR, HBB.out]
        exact h
end Go.Proofs.Ytdadhificeplmaa

/-
  No cell of these rows narrows 'for every input' (looked for: loops, veiled, ifaces, maps, wideKeys, modest, calm, conditions, laid).
  DERIVED. THE GIVEN ROWS OF THIS SEAT. 6 by the template 'for every input the law returns true; each argument reads behind the call as it read before'; 0 by the template 'total and deterministic' (their statements: YtdadhificeplmaaTotals.lean).
  GIVEN WITH THE SEED: the statements are not yours to turn. If you find one false, say at which input.
  Laid BY PROGRAM, IN A SANDBOX (cutbox-rows.mjs): the forced cells as the released guide's own fill.sh prints them over the translation f9db69802aa1372c… (all of the seat's roots in one cut). By AI agents, Wed Nov 11 2026. No macro, syntax, notation, axiom, sorry.
-/
import Derived.Test.YtdadhificeplmaaChecked
import GoSem.Claim
import GoSem.ClaimJoined
import GoSem.ClaimMapViews
import Derived.JoinedTies
import Derived.KernelRfl
namespace Go.Proofs.Ytdadhificeplmaa
/- THE CELL 'sum', in the pinned program and in every row, IS THE sha256 OF THE DUMP (.gsa) THAT YtdadhificeplmaaProg.lean LOADS. Nothing in Lean hashes anything: it is a label: what it is worth is what the hold of that sum in a sandbox is worth. -/
noncomputable def Try.pinned : Pinned := { name := "ytdadhificeplmaa", sum := "f9db69802aa1372c32db70c1f54db79bea1d854e5e1b76486bac9abc398539d3", checked := Try.checked }
namespace Rows
def none {H : Type} : Left H := { results := [], args := [] }

/-- 'cabinetrylaw04.MemoNeeds': WHATEVER THE INPUT: true; the input reads as it did. -/
def memoNeedsSpec : ChangeSpec := { name := "memoNeeds", fn := fun _ => fun
  | [d1, d2] => { results := [.lit (.bool true)], args := [d1, d2] }
  | _ => none }
def memoNeedsRow : OpenClaim := { program := "ytdadhificeplmaa", sum := "f9db69802aa1372c32db70c1f54db79bea1d854e5e1b76486bac9abc398539d3", func := "cabinetry/cabinetrylaw04.MemoNeeds", spec := "memoNeeds", inPlace := ["(*internal/sync.Mutex).Lock", "internal/race.Disable", "sync/atomic.CompareAndSwapInt32", "internal/race.Enable", "internal/race.Acquire", "(*internal/sync.Mutex).lockSlow", "internal/sync.runtime_canSpin", "internal/sync.runtime_doSpin", "internal/sync.throw", "internal/sync.runtime_nanotime", "internal/sync.runtime_SemacquireMutex", "sync/atomic.AddInt32", "(*internal/sync.Mutex).Unlock", "internal/race.ReleaseMerge", "(*internal/sync.Mutex).unlockSlow", "internal/sync.fatal", "internal/sync.runtime_Semrelease", "slices.overlaps[cabinetry/memo.entry]"], unfollowed := true, recurses := true, apart := false }
def MemoNeedsSaid : Prop := memoNeedsRow.holds Try.pinned (OpenSpec.ofChange memoNeedsSpec)

/-- ITS FALSE NEIGHBOUR: 'it returns false'. Refute it at one input. -/
def memoNeedsWrong : ChangeSpec := { name := "memoNeeds", fn := fun _ => fun
  | [d1, d2] => { results := [.lit (.bool false)], args := [d1, d2] }
  | _ => none }
def MemoNeedsWrongFalsely : Prop := memoNeedsRow.holds Try.pinned (OpenSpec.ofChange memoNeedsWrong)

/-- 'cabinetrylaw04.MemoOpens': WHATEVER THE INPUT: true; the input reads as it did. -/
def memoOpensSpec : ChangeSpec := { name := "memoOpens", fn := fun _ => fun
  | [d] => { results := [.lit (.bool true)], args := [d] }
  | _ => none }
def memoOpensRow : OpenClaim := { program := "ytdadhificeplmaa", sum := "f9db69802aa1372c32db70c1f54db79bea1d854e5e1b76486bac9abc398539d3", func := "cabinetry/cabinetrylaw04.MemoOpens", spec := "memoOpens", inPlace := ["(*internal/sync.Mutex).Lock", "internal/race.Disable", "sync/atomic.CompareAndSwapInt32", "internal/race.Enable", "internal/race.Acquire", "(*internal/sync.Mutex).lockSlow", "internal/sync.runtime_canSpin", "internal/sync.runtime_doSpin", "internal/sync.throw", "internal/sync.runtime_nanotime", "internal/sync.runtime_SemacquireMutex", "sync/atomic.AddInt32", "(*internal/sync.Mutex).Unlock", "internal/race.ReleaseMerge", "(*internal/sync.Mutex).unlockSlow", "internal/sync.fatal", "internal/sync.runtime_Semrelease", "slices.overlaps[cabinetry/memo.entry]"], unfollowed := true, recurses := true, apart := false }
def MemoOpensSaid : Prop := memoOpensRow.holds Try.pinned (OpenSpec.ofChange memoOpensSpec)

/-- ITS FALSE NEIGHBOUR: 'it returns false'. Refute it at one input. -/
def memoOpensWrong : ChangeSpec := { name := "memoOpens", fn := fun _ => fun
  | [d] => { results := [.lit (.bool false)], args := [d] }
  | _ => none }
def MemoOpensWrongFalsely : Prop := memoOpensRow.holds Try.pinned (OpenSpec.ofChange memoOpensWrong)

/-- 'cabinetrylaw04.MemoKeeps': WHATEVER THE INPUT: true; the input reads as it did. -/
def memoKeepsSpec : ChangeSpec := { name := "memoKeeps", fn := fun _ => fun
  | [d1, d2, d3] => { results := [.lit (.bool true)], args := [d1, d2, d3] }
  | _ => none }
def memoKeepsRow : OpenClaim := { program := "ytdadhificeplmaa", sum := "f9db69802aa1372c32db70c1f54db79bea1d854e5e1b76486bac9abc398539d3", func := "cabinetry/cabinetrylaw04.MemoKeeps", spec := "memoKeeps", inPlace := ["(*internal/sync.Mutex).Lock", "internal/race.Disable", "sync/atomic.CompareAndSwapInt32", "internal/race.Enable", "internal/race.Acquire", "(*internal/sync.Mutex).lockSlow", "internal/sync.runtime_canSpin", "internal/sync.runtime_doSpin", "internal/sync.throw", "internal/sync.runtime_nanotime", "internal/sync.runtime_SemacquireMutex", "sync/atomic.AddInt32", "(*internal/sync.Mutex).Unlock", "internal/race.ReleaseMerge", "(*internal/sync.Mutex).unlockSlow", "internal/sync.fatal", "internal/sync.runtime_Semrelease", "slices.overlaps[cabinetry/memo.entry]"], unfollowed := true, recurses := true, apart := false }
def MemoKeepsSaid : Prop := memoKeepsRow.holds Try.pinned (OpenSpec.ofChange memoKeepsSpec)

/-- ITS FALSE NEIGHBOUR: 'it returns false'. Refute it at one input. -/
def memoKeepsWrong : ChangeSpec := { name := "memoKeeps", fn := fun _ => fun
  | [d1, d2, d3] => { results := [.lit (.bool false)], args := [d1, d2, d3] }
  | _ => none }
def MemoKeepsWrongFalsely : Prop := memoKeepsRow.holds Try.pinned (OpenSpec.ofChange memoKeepsWrong)

/-- 'cabinetrylaw04.MemoCopies': WHATEVER THE INPUT: true; the input reads as it did. -/
def memoCopiesSpec : ChangeSpec := { name := "memoCopies", fn := fun _ => fun
  | [d1, d2, d3] => { results := [.lit (.bool true)], args := [d1, d2, d3] }
  | _ => none }
def memoCopiesRow : OpenClaim := { program := "ytdadhificeplmaa", sum := "f9db69802aa1372c32db70c1f54db79bea1d854e5e1b76486bac9abc398539d3", func := "cabinetry/cabinetrylaw04.MemoCopies", spec := "memoCopies", inPlace := ["(*internal/sync.Mutex).Lock", "internal/race.Disable", "sync/atomic.CompareAndSwapInt32", "internal/race.Enable", "internal/race.Acquire", "(*internal/sync.Mutex).lockSlow", "internal/sync.runtime_canSpin", "internal/sync.runtime_doSpin", "internal/sync.throw", "internal/sync.runtime_nanotime", "internal/sync.runtime_SemacquireMutex", "sync/atomic.AddInt32", "(*internal/sync.Mutex).Unlock", "internal/race.ReleaseMerge", "(*internal/sync.Mutex).unlockSlow", "internal/sync.fatal", "internal/sync.runtime_Semrelease", "slices.overlaps[cabinetry/memo.entry]"], unfollowed := true, recurses := true, apart := false }
def MemoCopiesSaid : Prop := memoCopiesRow.holds Try.pinned (OpenSpec.ofChange memoCopiesSpec)

/-- ITS FALSE NEIGHBOUR: 'it returns false'. Refute it at one input. -/
def memoCopiesWrong : ChangeSpec := { name := "memoCopies", fn := fun _ => fun
  | [d1, d2, d3] => { results := [.lit (.bool false)], args := [d1, d2, d3] }
  | _ => none }
def MemoCopiesWrongFalsely : Prop := memoCopiesRow.holds Try.pinned (OpenSpec.ofChange memoCopiesWrong)

/-- 'cabinetrylaw04.MemoNil': WHATEVER THE INPUT: true; the input reads as it did. -/
def memoNilSpec : ChangeSpec := { name := "memoNil", fn := fun _ => fun
  | [d1, d2] => { results := [.lit (.bool true)], args := [d1, d2] }
  | _ => none }
def memoNilRow : OpenClaim := { program := "ytdadhificeplmaa", sum := "f9db69802aa1372c32db70c1f54db79bea1d854e5e1b76486bac9abc398539d3", func := "cabinetry/cabinetrylaw04.MemoNil", spec := "memoNil", inPlace := ["(*internal/sync.Mutex).Lock", "internal/race.Disable", "sync/atomic.CompareAndSwapInt32", "internal/race.Enable", "internal/race.Acquire", "(*internal/sync.Mutex).lockSlow", "internal/sync.runtime_canSpin", "internal/sync.runtime_doSpin", "internal/sync.throw", "internal/sync.runtime_nanotime", "internal/sync.runtime_SemacquireMutex", "sync/atomic.AddInt32", "(*internal/sync.Mutex).Unlock", "internal/race.ReleaseMerge", "(*internal/sync.Mutex).unlockSlow", "internal/sync.fatal", "internal/sync.runtime_Semrelease", "slices.overlaps[cabinetry/memo.entry]"], unfollowed := true, recurses := true, apart := false }
def MemoNilSaid : Prop := memoNilRow.holds Try.pinned (OpenSpec.ofChange memoNilSpec)

/-- ITS FALSE NEIGHBOUR: 'it returns false'. Refute it at one input. -/
def memoNilWrong : ChangeSpec := { name := "memoNil", fn := fun _ => fun
  | [d1, d2] => { results := [.lit (.bool false)], args := [d1, d2] }
  | _ => none }
def MemoNilWrongFalsely : Prop := memoNilRow.holds Try.pinned (OpenSpec.ofChange memoNilWrong)

/-- 'cabinetrylaw04.MemoPlays': WHATEVER THE INPUT: true; the input reads as it did. -/
def memoPlaysSpec : ChangeSpec := { name := "memoPlays", fn := fun _ => fun
  | [d1, d2] => { results := [.lit (.bool true)], args := [d1, d2] }
  | _ => none }
def memoPlaysRow : OpenClaim := { program := "ytdadhificeplmaa", sum := "f9db69802aa1372c32db70c1f54db79bea1d854e5e1b76486bac9abc398539d3", func := "cabinetry/cabinetrylaw04.MemoPlays", spec := "memoPlays", inPlace := ["(*internal/sync.Mutex).Lock", "internal/race.Disable", "sync/atomic.CompareAndSwapInt32", "internal/race.Enable", "internal/race.Acquire", "(*internal/sync.Mutex).lockSlow", "internal/sync.runtime_canSpin", "internal/sync.runtime_doSpin", "internal/sync.throw", "internal/sync.runtime_nanotime", "internal/sync.runtime_SemacquireMutex", "sync/atomic.AddInt32", "(*internal/sync.Mutex).Unlock", "internal/race.ReleaseMerge", "(*internal/sync.Mutex).unlockSlow", "internal/sync.fatal", "internal/sync.runtime_Semrelease", "slices.overlaps[cabinetry/memo.entry]"], unfollowed := true, recurses := true, apart := false }
def MemoPlaysSaid : Prop := memoPlaysRow.holds Try.pinned (OpenSpec.ofChange memoPlaysSpec)

/-- ITS FALSE NEIGHBOUR: 'it returns false'. Refute it at one input. -/
def memoPlaysWrong : ChangeSpec := { name := "memoPlays", fn := fun _ => fun
  | [d1, d2] => { results := [.lit (.bool false)], args := [d1, d2] }
  | _ => none }
def MemoPlaysWrongFalsely : Prop := memoPlaysRow.holds Try.pinned (OpenSpec.ofChange memoPlaysWrong)

/- THE SECOND FORM. 'bulk': how many values and letters a reading holds, each counted each time it is reached (what is shared counts as often as it is met; a slice's spare places count too). A statement '..UptoSaid' is the law's where the arguments, and the package variables that the reading takes, are together of bulk at most 1048576: NARROWER than '..Said'. Prove '..Said' where nothing that the law and all that it calls make is longer than what came in: it says more and counts as full. Else prove '..UptoSaid'. A law counts once. -/
mutual
def uptoBulk {H : Type} : DataW H → Nat
  | .lit (.string bytes) => bytes.length + 1
  | .lit _ => 1
  | .nil => 1
  | .ptr d => uptoBulk d + 1
  | .slice elems spare => uptoBulkAll elems + uptoBulkAll spare + 1
  | .agg parts => uptoBulkAll parts + 1
  | .iface _ d => uptoBulk d + 1
  | .map entries => uptoBulkEntries entries + 1
  | .held _ => 1
def uptoBulkAll {H : Type} : List (DataW H) → Nat
  | [] => 0
  | d :: r => uptoBulk d + uptoBulkAll r
def uptoBulkEntries {H : Type} : List (Lit × DataW H) → Nat
  | [] => 0
  | x :: r => uptoBulkEntry x + uptoBulkEntries r
def uptoBulkEntry {H : Type} : Lit × DataW H → Nat
  | (.string bytes, d) => bytes.length + uptoBulk d + 1
  | (_, d) => uptoBulk d + 1
 end
def uptoSmall : (H : Type) → List (DataW H) → Bool := fun _ ds => decide (uptoBulkAll ds ≤ 1048576)
def OpenSpec.upto (s : _root_.Go.ChangeSpec) : _root_.Go.OpenSpec := { _root_.Go.OpenSpec.ofChange s with cond := some uptoSmall }

/-- 'cabinetrylaw04.MemoNeeds', WHERE WHAT IT READS IS OF BULK AT MOST 1048576: true; the input reads as it did. -/
def memoNeedsUptoRow : OpenClaim := { program := "ytdadhificeplmaa", sum := "f9db69802aa1372c32db70c1f54db79bea1d854e5e1b76486bac9abc398539d3", func := "cabinetry/cabinetrylaw04.MemoNeeds", spec := "memoNeeds", inPlace := ["(*internal/sync.Mutex).Lock", "internal/race.Disable", "sync/atomic.CompareAndSwapInt32", "internal/race.Enable", "internal/race.Acquire", "(*internal/sync.Mutex).lockSlow", "internal/sync.runtime_canSpin", "internal/sync.runtime_doSpin", "internal/sync.throw", "internal/sync.runtime_nanotime", "internal/sync.runtime_SemacquireMutex", "sync/atomic.AddInt32", "(*internal/sync.Mutex).Unlock", "internal/race.ReleaseMerge", "(*internal/sync.Mutex).unlockSlow", "internal/sync.fatal", "internal/sync.runtime_Semrelease", "slices.overlaps[cabinetry/memo.entry]"], unfollowed := true, recurses := true, apart := false, narrowed := true }
def MemoNeedsUptoSaid : Prop := memoNeedsUptoRow.holds Try.pinned (OpenSpec.upto memoNeedsSpec)

/-- 'cabinetrylaw04.MemoOpens', WHERE WHAT IT READS IS OF BULK AT MOST 1048576: true; the input reads as it did. -/
def memoOpensUptoRow : OpenClaim := { program := "ytdadhificeplmaa", sum := "f9db69802aa1372c32db70c1f54db79bea1d854e5e1b76486bac9abc398539d3", func := "cabinetry/cabinetrylaw04.MemoOpens", spec := "memoOpens", inPlace := ["(*internal/sync.Mutex).Lock", "internal/race.Disable", "sync/atomic.CompareAndSwapInt32", "internal/race.Enable", "internal/race.Acquire", "(*internal/sync.Mutex).lockSlow", "internal/sync.runtime_canSpin", "internal/sync.runtime_doSpin", "internal/sync.throw", "internal/sync.runtime_nanotime", "internal/sync.runtime_SemacquireMutex", "sync/atomic.AddInt32", "(*internal/sync.Mutex).Unlock", "internal/race.ReleaseMerge", "(*internal/sync.Mutex).unlockSlow", "internal/sync.fatal", "internal/sync.runtime_Semrelease", "slices.overlaps[cabinetry/memo.entry]"], unfollowed := true, recurses := true, apart := false, narrowed := true }
def MemoOpensUptoSaid : Prop := memoOpensUptoRow.holds Try.pinned (OpenSpec.upto memoOpensSpec)

/-- 'cabinetrylaw04.MemoKeeps', WHERE WHAT IT READS IS OF BULK AT MOST 1048576: true; the input reads as it did. -/
def memoKeepsUptoRow : OpenClaim := { program := "ytdadhificeplmaa", sum := "f9db69802aa1372c32db70c1f54db79bea1d854e5e1b76486bac9abc398539d3", func := "cabinetry/cabinetrylaw04.MemoKeeps", spec := "memoKeeps", inPlace := ["(*internal/sync.Mutex).Lock", "internal/race.Disable", "sync/atomic.CompareAndSwapInt32", "internal/race.Enable", "internal/race.Acquire", "(*internal/sync.Mutex).lockSlow", "internal/sync.runtime_canSpin", "internal/sync.runtime_doSpin", "internal/sync.throw", "internal/sync.runtime_nanotime", "internal/sync.runtime_SemacquireMutex", "sync/atomic.AddInt32", "(*internal/sync.Mutex).Unlock", "internal/race.ReleaseMerge", "(*internal/sync.Mutex).unlockSlow", "internal/sync.fatal", "internal/sync.runtime_Semrelease", "slices.overlaps[cabinetry/memo.entry]"], unfollowed := true, recurses := true, apart := false, narrowed := true }
def MemoKeepsUptoSaid : Prop := memoKeepsUptoRow.holds Try.pinned (OpenSpec.upto memoKeepsSpec)

/-- 'cabinetrylaw04.MemoCopies', WHERE WHAT IT READS IS OF BULK AT MOST 1048576: true; the input reads as it did. -/
def memoCopiesUptoRow : OpenClaim := { program := "ytdadhificeplmaa", sum := "f9db69802aa1372c32db70c1f54db79bea1d854e5e1b76486bac9abc398539d3", func := "cabinetry/cabinetrylaw04.MemoCopies", spec := "memoCopies", inPlace := ["(*internal/sync.Mutex).Lock", "internal/race.Disable", "sync/atomic.CompareAndSwapInt32", "internal/race.Enable", "internal/race.Acquire", "(*internal/sync.Mutex).lockSlow", "internal/sync.runtime_canSpin", "internal/sync.runtime_doSpin", "internal/sync.throw", "internal/sync.runtime_nanotime", "internal/sync.runtime_SemacquireMutex", "sync/atomic.AddInt32", "(*internal/sync.Mutex).Unlock", "internal/race.ReleaseMerge", "(*internal/sync.Mutex).unlockSlow", "internal/sync.fatal", "internal/sync.runtime_Semrelease", "slices.overlaps[cabinetry/memo.entry]"], unfollowed := true, recurses := true, apart := false, narrowed := true }
def MemoCopiesUptoSaid : Prop := memoCopiesUptoRow.holds Try.pinned (OpenSpec.upto memoCopiesSpec)

/-- 'cabinetrylaw04.MemoNil', WHERE WHAT IT READS IS OF BULK AT MOST 1048576: true; the input reads as it did. -/
def memoNilUptoRow : OpenClaim := { program := "ytdadhificeplmaa", sum := "f9db69802aa1372c32db70c1f54db79bea1d854e5e1b76486bac9abc398539d3", func := "cabinetry/cabinetrylaw04.MemoNil", spec := "memoNil", inPlace := ["(*internal/sync.Mutex).Lock", "internal/race.Disable", "sync/atomic.CompareAndSwapInt32", "internal/race.Enable", "internal/race.Acquire", "(*internal/sync.Mutex).lockSlow", "internal/sync.runtime_canSpin", "internal/sync.runtime_doSpin", "internal/sync.throw", "internal/sync.runtime_nanotime", "internal/sync.runtime_SemacquireMutex", "sync/atomic.AddInt32", "(*internal/sync.Mutex).Unlock", "internal/race.ReleaseMerge", "(*internal/sync.Mutex).unlockSlow", "internal/sync.fatal", "internal/sync.runtime_Semrelease", "slices.overlaps[cabinetry/memo.entry]"], unfollowed := true, recurses := true, apart := false, narrowed := true }
def MemoNilUptoSaid : Prop := memoNilUptoRow.holds Try.pinned (OpenSpec.upto memoNilSpec)

/-- 'cabinetrylaw04.MemoPlays', WHERE WHAT IT READS IS OF BULK AT MOST 1048576: true; the input reads as it did. -/
def memoPlaysUptoRow : OpenClaim := { program := "ytdadhificeplmaa", sum := "f9db69802aa1372c32db70c1f54db79bea1d854e5e1b76486bac9abc398539d3", func := "cabinetry/cabinetrylaw04.MemoPlays", spec := "memoPlays", inPlace := ["(*internal/sync.Mutex).Lock", "internal/race.Disable", "sync/atomic.CompareAndSwapInt32", "internal/race.Enable", "internal/race.Acquire", "(*internal/sync.Mutex).lockSlow", "internal/sync.runtime_canSpin", "internal/sync.runtime_doSpin", "internal/sync.throw", "internal/sync.runtime_nanotime", "internal/sync.runtime_SemacquireMutex", "sync/atomic.AddInt32", "(*internal/sync.Mutex).Unlock", "internal/race.ReleaseMerge", "(*internal/sync.Mutex).unlockSlow", "internal/sync.fatal", "internal/sync.runtime_Semrelease", "slices.overlaps[cabinetry/memo.entry]"], unfollowed := true, recurses := true, apart := false, narrowed := true }
def MemoPlaysUptoSaid : Prop := memoPlaysUptoRow.holds Try.pinned (OpenSpec.upto memoPlaysSpec)

end Rows
end Go.Proofs.Ytdadhificeplmaa

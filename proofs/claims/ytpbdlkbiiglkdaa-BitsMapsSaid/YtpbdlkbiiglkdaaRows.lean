/-
  No cell of these rows narrows 'for every input' (looked for: loops, veiled, ifaces, maps, wideKeys, modest, calm, conditions, laid).
  DERIVED. THE GIVEN ROWS OF THIS SEAT. 9 by the template 'for every input the law returns true; each argument reads behind the call as it read before'; 0 by the template 'total and deterministic' (their statements: YtpbdlkbiiglkdaaTotals.lean).
  GIVEN WITH THE SEED: the statements are not yours to turn. If you find one false, say at which input.
  Laid BY PROGRAM, IN A SANDBOX (cutbox-rows.mjs): the forced cells as the released guide's own fill.sh prints them over the translation 79131512127112b0… (all of the seat's roots in one cut). By AI agents, Wed Nov 11 2026. No macro, syntax, notation, axiom, sorry.
-/
import Derived.Test.YtpbdlkbiiglkdaaChecked
import GoSem.Claim
import GoSem.ClaimJoined
import GoSem.ClaimMapViews
import Derived.JoinedTies
import Derived.KernelRfl
namespace Go.Proofs.Ytpbdlkbiiglkdaa
/- THE CELL 'sum', in the pinned program and in every row, IS THE sha256 OF THE DUMP (.gsa) THAT YtpbdlkbiiglkdaaProg.lean LOADS. Nothing in Lean hashes anything: it is a label: what it is worth is what the hold of that sum in a sandbox is worth. -/
noncomputable def Try.pinned : Pinned := { name := "ytpbdlkbiiglkdaa", sum := "79131512127112b094f08c60a73fad772513d8e3aaf5f00ac010886db967e47a", checked := Try.checked }
namespace Rows
def none {H : Type} : Left H := { results := [], args := [] }

/-- 'cabinetrylaw12.BitsShifts': WHATEVER THE INPUT: true; the input reads as it did. -/
def bitsShiftsSpec : ChangeSpec := { name := "bitsShifts", fn := fun _ => fun
  | [d1, d2] => { results := [.lit (.bool true)], args := [d1, d2] }
  | _ => none }
def bitsShiftsRow : OpenClaim := { program := "ytpbdlkbiiglkdaa", sum := "79131512127112b094f08c60a73fad772513d8e3aaf5f00ac010886db967e47a", func := "cabinetry/cabinetrylaw12.BitsShifts", spec := "bitsShifts", unfollowed := true, recurses := true, apart := false }
def BitsShiftsSaid : Prop := bitsShiftsRow.holds Try.pinned (OpenSpec.ofChange bitsShiftsSpec)

/-- ITS FALSE NEIGHBOUR: 'it returns false'. Refute it at one input. -/
def bitsShiftsWrong : ChangeSpec := { name := "bitsShifts", fn := fun _ => fun
  | [d1, d2] => { results := [.lit (.bool false)], args := [d1, d2] }
  | _ => none }
def BitsShiftsWrongFalsely : Prop := bitsShiftsRow.holds Try.pinned (OpenSpec.ofChange bitsShiftsWrong)

/-- 'cabinetrylaw12.BitsJoins': WHATEVER THE INPUT: true; the input reads as it did. -/
def bitsJoinsSpec : ChangeSpec := { name := "bitsJoins", fn := fun _ => fun
  | [d1, d2] => { results := [.lit (.bool true)], args := [d1, d2] }
  | _ => none }
def bitsJoinsRow : OpenClaim := { program := "ytpbdlkbiiglkdaa", sum := "79131512127112b094f08c60a73fad772513d8e3aaf5f00ac010886db967e47a", func := "cabinetry/cabinetrylaw12.BitsJoins", spec := "bitsJoins", unfollowed := true, recurses := true, apart := false }
def BitsJoinsSaid : Prop := bitsJoinsRow.holds Try.pinned (OpenSpec.ofChange bitsJoinsSpec)

/-- ITS FALSE NEIGHBOUR: 'it returns false'. Refute it at one input. -/
def bitsJoinsWrong : ChangeSpec := { name := "bitsJoins", fn := fun _ => fun
  | [d1, d2] => { results := [.lit (.bool false)], args := [d1, d2] }
  | _ => none }
def BitsJoinsWrongFalsely : Prop := bitsJoinsRow.holds Try.pinned (OpenSpec.ofChange bitsJoinsWrong)

/-- 'cabinetrylaw12.BitsRanges': WHATEVER THE INPUT: true; the input reads as it did. -/
def bitsRangesSpec : ChangeSpec := { name := "bitsRanges", fn := fun _ => fun
  | [d] => { results := [.lit (.bool true)], args := [d] }
  | _ => none }
def bitsRangesRow : OpenClaim := { program := "ytpbdlkbiiglkdaa", sum := "79131512127112b094f08c60a73fad772513d8e3aaf5f00ac010886db967e47a", func := "cabinetry/cabinetrylaw12.BitsRanges", spec := "bitsRanges", unfollowed := true, recurses := true, apart := false }
def BitsRangesSaid : Prop := bitsRangesRow.holds Try.pinned (OpenSpec.ofChange bitsRangesSpec)

/-- ITS FALSE NEIGHBOUR: 'it returns false'. Refute it at one input. -/
def bitsRangesWrong : ChangeSpec := { name := "bitsRanges", fn := fun _ => fun
  | [d] => { results := [.lit (.bool false)], args := [d] }
  | _ => none }
def BitsRangesWrongFalsely : Prop := bitsRangesRow.holds Try.pinned (OpenSpec.ofChange bitsRangesWrong)

/-- 'cabinetrylaw12.BitsMorgan': WHATEVER THE INPUT: true; the input reads as it did. -/
def bitsMorganSpec : ChangeSpec := { name := "bitsMorgan", fn := fun _ => fun
  | [d1, d2, d3] => { results := [.lit (.bool true)], args := [d1, d2, d3] }
  | _ => none }
def bitsMorganRow : OpenClaim := { program := "ytpbdlkbiiglkdaa", sum := "79131512127112b094f08c60a73fad772513d8e3aaf5f00ac010886db967e47a", func := "cabinetry/cabinetrylaw12.BitsMorgan", spec := "bitsMorgan", unfollowed := true, recurses := true, apart := false }
def BitsMorganSaid : Prop := bitsMorganRow.holds Try.pinned (OpenSpec.ofChange bitsMorganSpec)

/-- ITS FALSE NEIGHBOUR: 'it returns false'. Refute it at one input. -/
def bitsMorganWrong : ChangeSpec := { name := "bitsMorgan", fn := fun _ => fun
  | [d1, d2, d3] => { results := [.lit (.bool false)], args := [d1, d2, d3] }
  | _ => none }
def BitsMorganWrongFalsely : Prop := bitsMorganRow.holds Try.pinned (OpenSpec.ofChange bitsMorganWrong)

/-- 'cabinetrylaw12.BitsNots': WHATEVER THE INPUT: true; the input reads as it did. -/
def bitsNotsSpec : ChangeSpec := { name := "bitsNots", fn := fun _ => fun
  | [d1, d2] => { results := [.lit (.bool true)], args := [d1, d2] }
  | _ => none }
def bitsNotsRow : OpenClaim := { program := "ytpbdlkbiiglkdaa", sum := "79131512127112b094f08c60a73fad772513d8e3aaf5f00ac010886db967e47a", func := "cabinetry/cabinetrylaw12.BitsNots", spec := "bitsNots", unfollowed := true, recurses := true, apart := false }
def BitsNotsSaid : Prop := bitsNotsRow.holds Try.pinned (OpenSpec.ofChange bitsNotsSpec)

/-- ITS FALSE NEIGHBOUR: 'it returns false'. Refute it at one input. -/
def bitsNotsWrong : ChangeSpec := { name := "bitsNots", fn := fun _ => fun
  | [d1, d2] => { results := [.lit (.bool false)], args := [d1, d2] }
  | _ => none }
def BitsNotsWrongFalsely : Prop := bitsNotsRow.holds Try.pinned (OpenSpec.ofChange bitsNotsWrong)

/-- 'cabinetrylaw12.BitsTrue': WHATEVER THE INPUT: true; the input reads as it did. -/
def bitsTrueSpec : ChangeSpec := { name := "bitsTrue", fn := fun _ => fun
  | [d1, d2, d3] => { results := [.lit (.bool true)], args := [d1, d2, d3] }
  | _ => none }
def bitsTrueRow : OpenClaim := { program := "ytpbdlkbiiglkdaa", sum := "79131512127112b094f08c60a73fad772513d8e3aaf5f00ac010886db967e47a", func := "cabinetry/cabinetrylaw12.BitsTrue", spec := "bitsTrue", unfollowed := true, recurses := true, apart := false }
def BitsTrueSaid : Prop := bitsTrueRow.holds Try.pinned (OpenSpec.ofChange bitsTrueSpec)

/-- ITS FALSE NEIGHBOUR: 'it returns false'. Refute it at one input. -/
def bitsTrueWrong : ChangeSpec := { name := "bitsTrue", fn := fun _ => fun
  | [d1, d2, d3] => { results := [.lit (.bool false)], args := [d1, d2, d3] }
  | _ => none }
def BitsTrueWrongFalsely : Prop := bitsTrueRow.holds Try.pinned (OpenSpec.ofChange bitsTrueWrong)

/-- 'cabinetrylaw12.BitsSettles': WHATEVER THE INPUT: true; the input reads as it did. -/
def bitsSettlesSpec : ChangeSpec := { name := "bitsSettles", fn := fun _ => fun
  | [d1, d2] => { results := [.lit (.bool true)], args := [d1, d2] }
  | _ => none }
def bitsSettlesRow : OpenClaim := { program := "ytpbdlkbiiglkdaa", sum := "79131512127112b094f08c60a73fad772513d8e3aaf5f00ac010886db967e47a", func := "cabinetry/cabinetrylaw12.BitsSettles", spec := "bitsSettles", unfollowed := true, recurses := true, apart := false }
def BitsSettlesSaid : Prop := bitsSettlesRow.holds Try.pinned (OpenSpec.ofChange bitsSettlesSpec)

/-- ITS FALSE NEIGHBOUR: 'it returns false'. Refute it at one input. -/
def bitsSettlesWrong : ChangeSpec := { name := "bitsSettles", fn := fun _ => fun
  | [d1, d2] => { results := [.lit (.bool false)], args := [d1, d2] }
  | _ => none }
def BitsSettlesWrongFalsely : Prop := bitsSettlesRow.holds Try.pinned (OpenSpec.ofChange bitsSettlesWrong)

/-- 'cabinetrylaw12.BitsReads': WHATEVER THE INPUT: true; the input reads as it did. -/
def bitsReadsSpec : ChangeSpec := { name := "bitsReads", fn := fun _ => fun
  | [d1, d2] => { results := [.lit (.bool true)], args := [d1, d2] }
  | _ => none }
def bitsReadsRow : OpenClaim := { program := "ytpbdlkbiiglkdaa", sum := "79131512127112b094f08c60a73fad772513d8e3aaf5f00ac010886db967e47a", func := "cabinetry/cabinetrylaw12.BitsReads", spec := "bitsReads", unfollowed := true, recurses := true, apart := false }
def BitsReadsSaid : Prop := bitsReadsRow.holds Try.pinned (OpenSpec.ofChange bitsReadsSpec)

/-- ITS FALSE NEIGHBOUR: 'it returns false'. Refute it at one input. -/
def bitsReadsWrong : ChangeSpec := { name := "bitsReads", fn := fun _ => fun
  | [d1, d2] => { results := [.lit (.bool false)], args := [d1, d2] }
  | _ => none }
def BitsReadsWrongFalsely : Prop := bitsReadsRow.holds Try.pinned (OpenSpec.ofChange bitsReadsWrong)

/-- 'cabinetrylaw12.BitsMaps': WHATEVER THE INPUT: true; the input reads as it did. -/
def bitsMapsSpec : ChangeSpec := { name := "bitsMaps", fn := fun _ => fun
  | [d1, d2] => { results := [.lit (.bool true)], args := [d1, d2] }
  | _ => none }
def bitsMapsRow : OpenClaim := { program := "ytpbdlkbiiglkdaa", sum := "79131512127112b094f08c60a73fad772513d8e3aaf5f00ac010886db967e47a", func := "cabinetry/cabinetrylaw12.BitsMaps", spec := "bitsMaps", unfollowed := true, recurses := true, apart := false }
def BitsMapsSaid : Prop := bitsMapsRow.holds Try.pinned (OpenSpec.ofChange bitsMapsSpec)

/-- ITS FALSE NEIGHBOUR: 'it returns false'. Refute it at one input. -/
def bitsMapsWrong : ChangeSpec := { name := "bitsMaps", fn := fun _ => fun
  | [d1, d2] => { results := [.lit (.bool false)], args := [d1, d2] }
  | _ => none }
def BitsMapsWrongFalsely : Prop := bitsMapsRow.holds Try.pinned (OpenSpec.ofChange bitsMapsWrong)

/- THE SECOND FORM. 'bulk': how many values and letters a reading holds, each counted each time it is reached (what is shared counts as often as it is met; a slice's spare places count too). A statement '..UptoSaid' is the law's where the arguments, and the package variables that the reading takes, are together of bulk at most 1048576: NARROWER than '..Said'. Prove '..Said' where nothing that the law and all that it calls make is longer than what came in: it says more and counts as full. Else prove '..UptoSaid'. A law counts once. -/
mutual
def uptoBulk {H : Type} : DataW H → Nat
  | .lit (.string bytes) => bytes.length + 1
  | .lit _ => 1
  | .nil => 1
  | .ptr d => uptoBulk d + 1
  | .slice elems spare => uptoBulkAll elems + uptoBulkAll spare + 1
  | .agg parts => uptoBulkAll parts + 1
  | .iface _ d => uptoBulk d + 1
  | .map entries => uptoBulkEntries entries + 1
  | .held _ => 1
def uptoBulkAll {H : Type} : List (DataW H) → Nat
  | [] => 0
  | d :: r => uptoBulk d + uptoBulkAll r
def uptoBulkEntries {H : Type} : List (Lit × DataW H) → Nat
  | [] => 0
  | x :: r => uptoBulkEntry x + uptoBulkEntries r
def uptoBulkEntry {H : Type} : Lit × DataW H → Nat
  | (.string bytes, d) => bytes.length + uptoBulk d + 1
  | (_, d) => uptoBulk d + 1
 end
def uptoSmall : (H : Type) → List (DataW H) → Bool := fun _ ds => decide (uptoBulkAll ds ≤ 1048576)
def OpenSpec.upto (s : _root_.Go.ChangeSpec) : _root_.Go.OpenSpec := { _root_.Go.OpenSpec.ofChange s with cond := some uptoSmall }

/-- 'cabinetrylaw12.BitsShifts', WHERE WHAT IT READS IS OF BULK AT MOST 1048576: true; the input reads as it did. -/
def bitsShiftsUptoRow : OpenClaim := { program := "ytpbdlkbiiglkdaa", sum := "79131512127112b094f08c60a73fad772513d8e3aaf5f00ac010886db967e47a", func := "cabinetry/cabinetrylaw12.BitsShifts", spec := "bitsShifts", unfollowed := true, recurses := true, apart := false, narrowed := true }
def BitsShiftsUptoSaid : Prop := bitsShiftsUptoRow.holds Try.pinned (OpenSpec.upto bitsShiftsSpec)

/-- 'cabinetrylaw12.BitsJoins', WHERE WHAT IT READS IS OF BULK AT MOST 1048576: true; the input reads as it did. -/
def bitsJoinsUptoRow : OpenClaim := { program := "ytpbdlkbiiglkdaa", sum := "79131512127112b094f08c60a73fad772513d8e3aaf5f00ac010886db967e47a", func := "cabinetry/cabinetrylaw12.BitsJoins", spec := "bitsJoins", unfollowed := true, recurses := true, apart := false, narrowed := true }
def BitsJoinsUptoSaid : Prop := bitsJoinsUptoRow.holds Try.pinned (OpenSpec.upto bitsJoinsSpec)

/-- 'cabinetrylaw12.BitsRanges', WHERE WHAT IT READS IS OF BULK AT MOST 1048576: true; the input reads as it did. -/
def bitsRangesUptoRow : OpenClaim := { program := "ytpbdlkbiiglkdaa", sum := "79131512127112b094f08c60a73fad772513d8e3aaf5f00ac010886db967e47a", func := "cabinetry/cabinetrylaw12.BitsRanges", spec := "bitsRanges", unfollowed := true, recurses := true, apart := false, narrowed := true }
def BitsRangesUptoSaid : Prop := bitsRangesUptoRow.holds Try.pinned (OpenSpec.upto bitsRangesSpec)

/-- 'cabinetrylaw12.BitsMorgan', WHERE WHAT IT READS IS OF BULK AT MOST 1048576: true; the input reads as it did. -/
def bitsMorganUptoRow : OpenClaim := { program := "ytpbdlkbiiglkdaa", sum := "79131512127112b094f08c60a73fad772513d8e3aaf5f00ac010886db967e47a", func := "cabinetry/cabinetrylaw12.BitsMorgan", spec := "bitsMorgan", unfollowed := true, recurses := true, apart := false, narrowed := true }
def BitsMorganUptoSaid : Prop := bitsMorganUptoRow.holds Try.pinned (OpenSpec.upto bitsMorganSpec)

/-- 'cabinetrylaw12.BitsNots', WHERE WHAT IT READS IS OF BULK AT MOST 1048576: true; the input reads as it did. -/
def bitsNotsUptoRow : OpenClaim := { program := "ytpbdlkbiiglkdaa", sum := "79131512127112b094f08c60a73fad772513d8e3aaf5f00ac010886db967e47a", func := "cabinetry/cabinetrylaw12.BitsNots", spec := "bitsNots", unfollowed := true, recurses := true, apart := false, narrowed := true }
def BitsNotsUptoSaid : Prop := bitsNotsUptoRow.holds Try.pinned (OpenSpec.upto bitsNotsSpec)

/-- 'cabinetrylaw12.BitsTrue', WHERE WHAT IT READS IS OF BULK AT MOST 1048576: true; the input reads as it did. -/
def bitsTrueUptoRow : OpenClaim := { program := "ytpbdlkbiiglkdaa", sum := "79131512127112b094f08c60a73fad772513d8e3aaf5f00ac010886db967e47a", func := "cabinetry/cabinetrylaw12.BitsTrue", spec := "bitsTrue", unfollowed := true, recurses := true, apart := false, narrowed := true }
def BitsTrueUptoSaid : Prop := bitsTrueUptoRow.holds Try.pinned (OpenSpec.upto bitsTrueSpec)

/-- 'cabinetrylaw12.BitsSettles', WHERE WHAT IT READS IS OF BULK AT MOST 1048576: true; the input reads as it did. -/
def bitsSettlesUptoRow : OpenClaim := { program := "ytpbdlkbiiglkdaa", sum := "79131512127112b094f08c60a73fad772513d8e3aaf5f00ac010886db967e47a", func := "cabinetry/cabinetrylaw12.BitsSettles", spec := "bitsSettles", unfollowed := true, recurses := true, apart := false, narrowed := true }
def BitsSettlesUptoSaid : Prop := bitsSettlesUptoRow.holds Try.pinned (OpenSpec.upto bitsSettlesSpec)

/-- 'cabinetrylaw12.BitsReads', WHERE WHAT IT READS IS OF BULK AT MOST 1048576: true; the input reads as it did. -/
def bitsReadsUptoRow : OpenClaim := { program := "ytpbdlkbiiglkdaa", sum := "79131512127112b094f08c60a73fad772513d8e3aaf5f00ac010886db967e47a", func := "cabinetry/cabinetrylaw12.BitsReads", spec := "bitsReads", unfollowed := true, recurses := true, apart := false, narrowed := true }
def BitsReadsUptoSaid : Prop := bitsReadsUptoRow.holds Try.pinned (OpenSpec.upto bitsReadsSpec)

/-- 'cabinetrylaw12.BitsMaps', WHERE WHAT IT READS IS OF BULK AT MOST 1048576: true; the input reads as it did. -/
def bitsMapsUptoRow : OpenClaim := { program := "ytpbdlkbiiglkdaa", sum := "79131512127112b094f08c60a73fad772513d8e3aaf5f00ac010886db967e47a", func := "cabinetry/cabinetrylaw12.BitsMaps", spec := "bitsMaps", unfollowed := true, recurses := true, apart := false, narrowed := true }
def BitsMapsUptoSaid : Prop := bitsMapsUptoRow.holds Try.pinned (OpenSpec.upto bitsMapsSpec)

end Rows
end Go.Proofs.Ytpbdlkbiiglkdaa

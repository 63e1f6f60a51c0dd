/-
  No cell of these rows narrows 'for every input' (looked for: loops, veiled, ifaces, maps, wideKeys, modest, calm, conditions, laid).
  DERIVED. THE GIVEN ROWS OF THIS SEAT. 8 by the template 'for every input the law returns true; each argument reads behind the call as it read before'; 0 by the template 'total and deterministic' (their statements: YtmgbbkglafnibaaTotals.lean).
  GIVEN WITH THE SEED: the statements are not yours to turn. If you find one false, say at which input.
  Laid BY PROGRAM, IN A SANDBOX (cutbox-rows.mjs): the forced cells as the released guide's own fill.sh prints them over the translation b16cdb7b473e0218… (all of the seat's roots in one cut). By AI agents, Wed Nov 11 2026. No macro, syntax, notation, axiom, sorry.
-/
import Derived.Test.YtmgbbkglafnibaaChecked
import GoSem.Claim
import GoSem.ClaimJoined
import GoSem.ClaimMapViews
import Derived.JoinedTies
import Derived.KernelRfl
namespace Go.Proofs.Ytmgbbkglafnibaa
/- THE CELL 'sum', in the pinned program and in every row, IS THE sha256 OF THE DUMP (.gsa) THAT YtmgbbkglafnibaaProg.lean LOADS. Nothing in Lean hashes anything: it is a label: what it is worth is what the hold of that sum in a sandbox is worth. -/
noncomputable def Try.pinned : Pinned := { name := "ytmgbbkglafnibaa", sum := "b16cdb7b473e0218ec2205d3485942a3eab0d1e790e0d87eeb4f872cdc2fb7d5", checked := Try.checked }
namespace Rows
def none {H : Type} : Left H := { results := [], args := [] }

/-- 'laws.FnExactValidTable': WHATEVER THE INPUT: true; the input reads as it did. -/
def fnExactValidTableSpec : ChangeSpec := { name := "fnExactValidTable", fn := fun _ => fun
  | [d] => { results := [.lit (.bool true)], args := [d] }
  | _ => none }
def fnExactValidTableRow : OpenClaim := { program := "ytmgbbkglafnibaa", sum := "b16cdb7b473e0218ec2205d3485942a3eab0d1e790e0d87eeb4f872cdc2fb7d5", func := "loop.example/g00932/laws.FnExactValidTable", spec := "fnExactValidTable", unfollowed := true, recurses := true, apart := false }
def FnExactValidTableSaid : Prop := fnExactValidTableRow.holds Try.pinned (OpenSpec.ofChange fnExactValidTableSpec)

/-- ITS FALSE NEIGHBOUR: 'it returns false'. Refute it at one input. -/
def fnExactValidTableWrong : ChangeSpec := { name := "fnExactValidTable", fn := fun _ => fun
  | [d] => { results := [.lit (.bool false)], args := [d] }
  | _ => none }
def FnExactValidTableWrongFalsely : Prop := fnExactValidTableRow.holds Try.pinned (OpenSpec.ofChange fnExactValidTableWrong)

/-- 'laws.FnExactCountConflicts': WHATEVER THE INPUT: true; the input reads as it did. -/
def fnExactCountConflictsSpec : ChangeSpec := { name := "fnExactCountConflicts", fn := fun _ => fun
  | [d] => { results := [.lit (.bool true)], args := [d] }
  | _ => none }
def fnExactCountConflictsRow : OpenClaim := { program := "ytmgbbkglafnibaa", sum := "b16cdb7b473e0218ec2205d3485942a3eab0d1e790e0d87eeb4f872cdc2fb7d5", func := "loop.example/g00932/laws.FnExactCountConflicts", spec := "fnExactCountConflicts", unfollowed := true, recurses := true, apart := false }
def FnExactCountConflictsSaid : Prop := fnExactCountConflictsRow.holds Try.pinned (OpenSpec.ofChange fnExactCountConflictsSpec)

/-- ITS FALSE NEIGHBOUR: 'it returns false'. Refute it at one input. -/
def fnExactCountConflictsWrong : ChangeSpec := { name := "fnExactCountConflicts", fn := fun _ => fun
  | [d] => { results := [.lit (.bool false)], args := [d] }
  | _ => none }
def FnExactCountConflictsWrongFalsely : Prop := fnExactCountConflictsRow.holds Try.pinned (OpenSpec.ofChange fnExactCountConflictsWrong)

/-- 'laws.FnExactTurnedTable': WHATEVER THE INPUT: true; the input reads as it did. -/
def fnExactTurnedTableSpec : ChangeSpec := { name := "fnExactTurnedTable", fn := fun _ => fun
  | [d] => { results := [.lit (.bool true)], args := [d] }
  | _ => none }
def fnExactTurnedTableRow : OpenClaim := { program := "ytmgbbkglafnibaa", sum := "b16cdb7b473e0218ec2205d3485942a3eab0d1e790e0d87eeb4f872cdc2fb7d5", func := "loop.example/g00932/laws.FnExactTurnedTable", spec := "fnExactTurnedTable", unfollowed := true, recurses := true, apart := false }
def FnExactTurnedTableSaid : Prop := fnExactTurnedTableRow.holds Try.pinned (OpenSpec.ofChange fnExactTurnedTableSpec)

/-- ITS FALSE NEIGHBOUR: 'it returns false'. Refute it at one input. -/
def fnExactTurnedTableWrong : ChangeSpec := { name := "fnExactTurnedTable", fn := fun _ => fun
  | [d] => { results := [.lit (.bool false)], args := [d] }
  | _ => none }
def FnExactTurnedTableWrongFalsely : Prop := fnExactTurnedTableRow.holds Try.pinned (OpenSpec.ofChange fnExactTurnedTableWrong)

/-- 'laws.FnExactFreeDirections': WHATEVER THE INPUT: true; the input reads as it did. -/
def fnExactFreeDirectionsSpec : ChangeSpec := { name := "fnExactFreeDirections", fn := fun _ => fun
  | [d1, d2] => { results := [.lit (.bool true)], args := [d1, d2] }
  | _ => none }
def fnExactFreeDirectionsRow : OpenClaim := { program := "ytmgbbkglafnibaa", sum := "b16cdb7b473e0218ec2205d3485942a3eab0d1e790e0d87eeb4f872cdc2fb7d5", func := "loop.example/g00932/laws.FnExactFreeDirections", spec := "fnExactFreeDirections", unfollowed := true, recurses := true, apart := false }
def FnExactFreeDirectionsSaid : Prop := fnExactFreeDirectionsRow.holds Try.pinned (OpenSpec.ofChange fnExactFreeDirectionsSpec)

/-- ITS FALSE NEIGHBOUR: 'it returns false'. Refute it at one input. -/
def fnExactFreeDirectionsWrong : ChangeSpec := { name := "fnExactFreeDirections", fn := fun _ => fun
  | [d1, d2] => { results := [.lit (.bool false)], args := [d1, d2] }
  | _ => none }
def FnExactFreeDirectionsWrongFalsely : Prop := fnExactFreeDirectionsRow.holds Try.pinned (OpenSpec.ofChange fnExactFreeDirectionsWrong)

/-- 'laws.FnExactBlockedDirections': WHATEVER THE INPUT: true; the input reads as it did. -/
def fnExactBlockedDirectionsSpec : ChangeSpec := { name := "fnExactBlockedDirections", fn := fun _ => fun
  | [d] => { results := [.lit (.bool true)], args := [d] }
  | _ => none }
def fnExactBlockedDirectionsRow : OpenClaim := { program := "ytmgbbkglafnibaa", sum := "b16cdb7b473e0218ec2205d3485942a3eab0d1e790e0d87eeb4f872cdc2fb7d5", func := "loop.example/g00932/laws.FnExactBlockedDirections", spec := "fnExactBlockedDirections", unfollowed := true, recurses := true, apart := false }
def FnExactBlockedDirectionsSaid : Prop := fnExactBlockedDirectionsRow.holds Try.pinned (OpenSpec.ofChange fnExactBlockedDirectionsSpec)

/-- ITS FALSE NEIGHBOUR: 'it returns false'. Refute it at one input. -/
def fnExactBlockedDirectionsWrong : ChangeSpec := { name := "fnExactBlockedDirections", fn := fun _ => fun
  | [d] => { results := [.lit (.bool false)], args := [d] }
  | _ => none }
def FnExactBlockedDirectionsWrongFalsely : Prop := fnExactBlockedDirectionsRow.holds Try.pinned (OpenSpec.ofChange fnExactBlockedDirectionsWrong)

/-- 'laws.FnExactStepAllowed': WHATEVER THE INPUT: true; the input reads as it did. -/
def fnExactStepAllowedSpec : ChangeSpec := { name := "fnExactStepAllowed", fn := fun _ => fun
  | [d1, d2, d3] => { results := [.lit (.bool true)], args := [d1, d2, d3] }
  | _ => none }
def fnExactStepAllowedRow : OpenClaim := { program := "ytmgbbkglafnibaa", sum := "b16cdb7b473e0218ec2205d3485942a3eab0d1e790e0d87eeb4f872cdc2fb7d5", func := "loop.example/g00932/laws.FnExactStepAllowed", spec := "fnExactStepAllowed", unfollowed := true, recurses := true, apart := false }
def FnExactStepAllowedSaid : Prop := fnExactStepAllowedRow.holds Try.pinned (OpenSpec.ofChange fnExactStepAllowedSpec)

/-- ITS FALSE NEIGHBOUR: 'it returns false'. Refute it at one input. -/
def fnExactStepAllowedWrong : ChangeSpec := { name := "fnExactStepAllowed", fn := fun _ => fun
  | [d1, d2, d3] => { results := [.lit (.bool false)], args := [d1, d2, d3] }
  | _ => none }
def FnExactStepAllowedWrongFalsely : Prop := fnExactStepAllowedRow.holds Try.pinned (OpenSpec.ofChange fnExactStepAllowedWrong)

/-- 'laws.FnExactTableLines': WHATEVER THE INPUT: true; the input reads as it did. -/
def fnExactTableLinesSpec : ChangeSpec := { name := "fnExactTableLines", fn := fun _ => fun
  | [d] => { results := [.lit (.bool true)], args := [d] }
  | _ => none }
def fnExactTableLinesRow : OpenClaim := { program := "ytmgbbkglafnibaa", sum := "b16cdb7b473e0218ec2205d3485942a3eab0d1e790e0d87eeb4f872cdc2fb7d5", func := "loop.example/g00932/laws.FnExactTableLines", spec := "fnExactTableLines", inPlace := ["internal/abi.NoEscape"], unfollowed := true, recurses := true, apart := false }
def FnExactTableLinesSaid : Prop := fnExactTableLinesRow.holds Try.pinned (OpenSpec.ofChange fnExactTableLinesSpec)

/-- ITS FALSE NEIGHBOUR: 'it returns false'. Refute it at one input. -/
def fnExactTableLinesWrong : ChangeSpec := { name := "fnExactTableLines", fn := fun _ => fun
  | [d] => { results := [.lit (.bool false)], args := [d] }
  | _ => none }
def FnExactTableLinesWrongFalsely : Prop := fnExactTableLinesRow.holds Try.pinned (OpenSpec.ofChange fnExactTableLinesWrong)

/-- 'laws.FnTables': WHATEVER THE INPUT: true; the input reads as it did. -/
def fnTablesSpec : ChangeSpec := { name := "fnTables", fn := fun _ => fun
  | [d] => { results := [.lit (.bool true)], args := [d] }
  | _ => none }
def fnTablesRow : OpenClaim := { program := "ytmgbbkglafnibaa", sum := "b16cdb7b473e0218ec2205d3485942a3eab0d1e790e0d87eeb4f872cdc2fb7d5", func := "loop.example/g00932/laws.FnTables", spec := "fnTables", inPlace := ["internal/abi.NoEscape"], unfollowed := true, recurses := true, apart := false }
def FnTablesSaid : Prop := fnTablesRow.holds Try.pinned (OpenSpec.ofChange fnTablesSpec)

/-- ITS FALSE NEIGHBOUR: 'it returns false'. Refute it at one input. -/
def fnTablesWrong : ChangeSpec := { name := "fnTables", fn := fun _ => fun
  | [d] => { results := [.lit (.bool false)], args := [d] }
  | _ => none }
def FnTablesWrongFalsely : Prop := fnTablesRow.holds Try.pinned (OpenSpec.ofChange fnTablesWrong)

/- THE SECOND FORM. 'bulk': how many values and letters a reading holds, each counted each time it is reached (what is shared counts as often as it is met; a slice's spare places count too). A statement '..UptoSaid' is the law's where the arguments, and the package variables that the reading takes, are together of bulk at most 1048576: NARROWER than '..Said'. Prove '..Said' where nothing that the law and all that it calls make is longer than what came in: it says more and counts as full. Else prove '..UptoSaid'. A law counts once. -/
mutual
def uptoBulk {H : Type} : DataW H → Nat
  | .lit (.string bytes) => bytes.length + 1
  | .lit _ => 1
  | .nil => 1
  | .ptr d => uptoBulk d + 1
  | .slice elems spare => uptoBulkAll elems + uptoBulkAll spare + 1
  | .agg parts => uptoBulkAll parts + 1
  | .iface _ d => uptoBulk d + 1
  | .map entries => uptoBulkEntries entries + 1
  | .held _ => 1
def uptoBulkAll {H : Type} : List (DataW H) → Nat
  | [] => 0
  | d :: r => uptoBulk d + uptoBulkAll r
def uptoBulkEntries {H : Type} : List (Lit × DataW H) → Nat
  | [] => 0
  | x :: r => uptoBulkEntry x + uptoBulkEntries r
def uptoBulkEntry {H : Type} : Lit × DataW H → Nat
  | (.string bytes, d) => bytes.length + uptoBulk d + 1
  | (_, d) => uptoBulk d + 1
 end
def uptoSmall : (H : Type) → List (DataW H) → Bool := fun _ ds => decide (uptoBulkAll ds ≤ 1048576)
def OpenSpec.upto (s : _root_.Go.ChangeSpec) : _root_.Go.OpenSpec := { _root_.Go.OpenSpec.ofChange s with cond := some uptoSmall }

/-- 'laws.FnExactValidTable', WHERE WHAT IT READS IS OF BULK AT MOST 1048576: true; the input reads as it did. -/
def fnExactValidTableUptoRow : OpenClaim := { program := "ytmgbbkglafnibaa", sum := "b16cdb7b473e0218ec2205d3485942a3eab0d1e790e0d87eeb4f872cdc2fb7d5", func := "loop.example/g00932/laws.FnExactValidTable", spec := "fnExactValidTable", unfollowed := true, recurses := true, apart := false, narrowed := true }
def FnExactValidTableUptoSaid : Prop := fnExactValidTableUptoRow.holds Try.pinned (OpenSpec.upto fnExactValidTableSpec)

/-- 'laws.FnExactCountConflicts', WHERE WHAT IT READS IS OF BULK AT MOST 1048576: true; the input reads as it did. -/
def fnExactCountConflictsUptoRow : OpenClaim := { program := "ytmgbbkglafnibaa", sum := "b16cdb7b473e0218ec2205d3485942a3eab0d1e790e0d87eeb4f872cdc2fb7d5", func := "loop.example/g00932/laws.FnExactCountConflicts", spec := "fnExactCountConflicts", unfollowed := true, recurses := true, apart := false, narrowed := true }
def FnExactCountConflictsUptoSaid : Prop := fnExactCountConflictsUptoRow.holds Try.pinned (OpenSpec.upto fnExactCountConflictsSpec)

/-- 'laws.FnExactTurnedTable', WHERE WHAT IT READS IS OF BULK AT MOST 1048576: true; the input reads as it did. -/
def fnExactTurnedTableUptoRow : OpenClaim := { program := "ytmgbbkglafnibaa", sum := "b16cdb7b473e0218ec2205d3485942a3eab0d1e790e0d87eeb4f872cdc2fb7d5", func := "loop.example/g00932/laws.FnExactTurnedTable", spec := "fnExactTurnedTable", unfollowed := true, recurses := true, apart := false, narrowed := true }
def FnExactTurnedTableUptoSaid : Prop := fnExactTurnedTableUptoRow.holds Try.pinned (OpenSpec.upto fnExactTurnedTableSpec)

/-- 'laws.FnExactFreeDirections', WHERE WHAT IT READS IS OF BULK AT MOST 1048576: true; the input reads as it did. -/
def fnExactFreeDirectionsUptoRow : OpenClaim := { program := "ytmgbbkglafnibaa", sum := "b16cdb7b473e0218ec2205d3485942a3eab0d1e790e0d87eeb4f872cdc2fb7d5", func := "loop.example/g00932/laws.FnExactFreeDirections", spec := "fnExactFreeDirections", unfollowed := true, recurses := true, apart := false, narrowed := true }
def FnExactFreeDirectionsUptoSaid : Prop := fnExactFreeDirectionsUptoRow.holds Try.pinned (OpenSpec.upto fnExactFreeDirectionsSpec)

/-- 'laws.FnExactBlockedDirections', WHERE WHAT IT READS IS OF BULK AT MOST 1048576: true; the input reads as it did. -/
def fnExactBlockedDirectionsUptoRow : OpenClaim := { program := "ytmgbbkglafnibaa", sum := "b16cdb7b473e0218ec2205d3485942a3eab0d1e790e0d87eeb4f872cdc2fb7d5", func := "loop.example/g00932/laws.FnExactBlockedDirections", spec := "fnExactBlockedDirections", unfollowed := true, recurses := true, apart := false, narrowed := true }
def FnExactBlockedDirectionsUptoSaid : Prop := fnExactBlockedDirectionsUptoRow.holds Try.pinned (OpenSpec.upto fnExactBlockedDirectionsSpec)

/-- 'laws.FnExactStepAllowed', WHERE WHAT IT READS IS OF BULK AT MOST 1048576: true; the input reads as it did. -/
def fnExactStepAllowedUptoRow : OpenClaim := { program := "ytmgbbkglafnibaa", sum := "b16cdb7b473e0218ec2205d3485942a3eab0d1e790e0d87eeb4f872cdc2fb7d5", func := "loop.example/g00932/laws.FnExactStepAllowed", spec := "fnExactStepAllowed", unfollowed := true, recurses := true, apart := false, narrowed := true }
def FnExactStepAllowedUptoSaid : Prop := fnExactStepAllowedUptoRow.holds Try.pinned (OpenSpec.upto fnExactStepAllowedSpec)

/-- 'laws.FnExactTableLines', WHERE WHAT IT READS IS OF BULK AT MOST 1048576: true; the input reads as it did. -/
def fnExactTableLinesUptoRow : OpenClaim := { program := "ytmgbbkglafnibaa", sum := "b16cdb7b473e0218ec2205d3485942a3eab0d1e790e0d87eeb4f872cdc2fb7d5", func := "loop.example/g00932/laws.FnExactTableLines", spec := "fnExactTableLines", inPlace := ["internal/abi.NoEscape"], unfollowed := true, recurses := true, apart := false, narrowed := true }
def FnExactTableLinesUptoSaid : Prop := fnExactTableLinesUptoRow.holds Try.pinned (OpenSpec.upto fnExactTableLinesSpec)

/-- 'laws.FnTables', WHERE WHAT IT READS IS OF BULK AT MOST 1048576: true; the input reads as it did. -/
def fnTablesUptoRow : OpenClaim := { program := "ytmgbbkglafnibaa", sum := "b16cdb7b473e0218ec2205d3485942a3eab0d1e790e0d87eeb4f872cdc2fb7d5", func := "loop.example/g00932/laws.FnTables", spec := "fnTables", inPlace := ["internal/abi.NoEscape"], unfollowed := true, recurses := true, apart := false, narrowed := true }
def FnTablesUptoSaid : Prop := fnTablesUptoRow.holds Try.pinned (OpenSpec.upto fnTablesSpec)

end Rows
end Go.Proofs.Ytmgbbkglafnibaa

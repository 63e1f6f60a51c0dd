/-
  No cell of these rows narrows 'for every input' (looked for: loops, veiled, ifaces, maps, wideKeys, modest, calm, conditions, laid).
  DERIVED. THE GIVEN ROWS OF THIS SEAT. 7 by the template 'for every input the law returns true; each argument reads behind the call as it read before'; 0 by the template 'total and deterministic' (their statements: YtmgaefillnfchaaTotals.lean).
  GIVEN WITH THE SEED: the statements are not yours to turn. If you find one false, say at which input.
  Laid BY PROGRAM, IN A SANDBOX (cutbox-rows.mjs): the forced cells as the released guide's own fill.sh prints them over the translation f0655d209d45408e… (all of the seat's roots in one cut). By AI agents, Wed Nov 11 2026. No macro, syntax, notation, axiom, sorry.
-/
import Derived.Test.YtmgaefillnfchaaChecked
import GoSem.Claim
import GoSem.ClaimJoined
import GoSem.ClaimMapViews
import Derived.JoinedTies
import Derived.KernelRfl
namespace Go.Proofs.Ytmgaefillnfchaa
/- THE CELL 'sum', in the pinned program and in every row, IS THE sha256 OF THE DUMP (.gsa) THAT YtmgaefillnfchaaProg.lean LOADS. Nothing in Lean hashes anything: it is a label: what it is worth is what the hold of that sum in a sandbox is worth. -/
noncomputable def Try.pinned : Pinned := { name := "ytmgaefillnfchaa", sum := "f0655d209d45408e58654eb59df4ab6351dafa092e78c00ca0f808368c1b9b36", checked := Try.checked }
namespace Rows
def none {H : Type} : Left H := { results := [], args := [] }

/-- 'laws.FnExactValidSegment': WHATEVER THE INPUT: true; the input reads as it did. -/
def fnExactValidSegmentSpec : ChangeSpec := { name := "fnExactValidSegment", fn := fun _ => fun
  | [d] => { results := [.lit (.bool true)], args := [d] }
  | _ => none }
def fnExactValidSegmentRow : OpenClaim := { program := "ytmgaefillnfchaa", sum := "f0655d209d45408e58654eb59df4ab6351dafa092e78c00ca0f808368c1b9b36", func := "loop.example/g00932/laws.FnExactValidSegment", spec := "fnExactValidSegment", apart := false }
def FnExactValidSegmentSaid : Prop := fnExactValidSegmentRow.holds Try.pinned (OpenSpec.ofChange fnExactValidSegmentSpec)

/-- ITS FALSE NEIGHBOUR: 'it returns false'. Refute it at one input. -/
def fnExactValidSegmentWrong : ChangeSpec := { name := "fnExactValidSegment", fn := fun _ => fun
  | [d] => { results := [.lit (.bool false)], args := [d] }
  | _ => none }
def FnExactValidSegmentWrongFalsely : Prop := fnExactValidSegmentRow.holds Try.pinned (OpenSpec.ofChange fnExactValidSegmentWrong)

/-- 'laws.FnExactSideOf': WHATEVER THE INPUT: true; the input reads as it did. -/
def fnExactSideOfSpec : ChangeSpec := { name := "fnExactSideOf", fn := fun _ => fun
  | [d1, d2] => { results := [.lit (.bool true)], args := [d1, d2] }
  | _ => none }
def fnExactSideOfRow : OpenClaim := { program := "ytmgaefillnfchaa", sum := "f0655d209d45408e58654eb59df4ab6351dafa092e78c00ca0f808368c1b9b36", func := "loop.example/g00932/laws.FnExactSideOf", spec := "fnExactSideOf", apart := false }
def FnExactSideOfSaid : Prop := fnExactSideOfRow.holds Try.pinned (OpenSpec.ofChange fnExactSideOfSpec)

/-- ITS FALSE NEIGHBOUR: 'it returns false'. Refute it at one input. -/
def fnExactSideOfWrong : ChangeSpec := { name := "fnExactSideOf", fn := fun _ => fun
  | [d1, d2] => { results := [.lit (.bool false)], args := [d1, d2] }
  | _ => none }
def FnExactSideOfWrongFalsely : Prop := fnExactSideOfRow.holds Try.pinned (OpenSpec.ofChange fnExactSideOfWrong)

/-- 'laws.FnExactSegmentsMeet': WHATEVER THE INPUT: true; the input reads as it did. -/
def fnExactSegmentsMeetSpec : ChangeSpec := { name := "fnExactSegmentsMeet", fn := fun _ => fun
  | [d1, d2] => { results := [.lit (.bool true)], args := [d1, d2] }
  | _ => none }
def fnExactSegmentsMeetRow : OpenClaim := { program := "ytmgaefillnfchaa", sum := "f0655d209d45408e58654eb59df4ab6351dafa092e78c00ca0f808368c1b9b36", func := "loop.example/g00932/laws.FnExactSegmentsMeet", spec := "fnExactSegmentsMeet", apart := false }
def FnExactSegmentsMeetSaid : Prop := fnExactSegmentsMeetRow.holds Try.pinned (OpenSpec.ofChange fnExactSegmentsMeetSpec)

/-- ITS FALSE NEIGHBOUR: 'it returns false'. Refute it at one input. -/
def fnExactSegmentsMeetWrong : ChangeSpec := { name := "fnExactSegmentsMeet", fn := fun _ => fun
  | [d1, d2] => { results := [.lit (.bool false)], args := [d1, d2] }
  | _ => none }
def FnExactSegmentsMeetWrongFalsely : Prop := fnExactSegmentsMeetRow.holds Try.pinned (OpenSpec.ofChange fnExactSegmentsMeetWrong)

/-- 'laws.FnExactPointSquare': WHATEVER THE INPUT: true; the input reads as it did. -/
def fnExactPointSquareSpec : ChangeSpec := { name := "fnExactPointSquare", fn := fun _ => fun
  | [d1, d2] => { results := [.lit (.bool true)], args := [d1, d2] }
  | _ => none }
def fnExactPointSquareRow : OpenClaim := { program := "ytmgaefillnfchaa", sum := "f0655d209d45408e58654eb59df4ab6351dafa092e78c00ca0f808368c1b9b36", func := "loop.example/g00932/laws.FnExactPointSquare", spec := "fnExactPointSquare", apart := false }
def FnExactPointSquareSaid : Prop := fnExactPointSquareRow.holds Try.pinned (OpenSpec.ofChange fnExactPointSquareSpec)

/-- ITS FALSE NEIGHBOUR: 'it returns false'. Refute it at one input. -/
def fnExactPointSquareWrong : ChangeSpec := { name := "fnExactPointSquare", fn := fun _ => fun
  | [d1, d2] => { results := [.lit (.bool false)], args := [d1, d2] }
  | _ => none }
def FnExactPointSquareWrongFalsely : Prop := fnExactPointSquareRow.holds Try.pinned (OpenSpec.ofChange fnExactPointSquareWrong)

/-- 'laws.FnExactSegmentSquare': WHATEVER THE INPUT: true; the input reads as it did. -/
def fnExactSegmentSquareSpec : ChangeSpec := { name := "fnExactSegmentSquare", fn := fun _ => fun
  | [d1, d2] => { results := [.lit (.bool true)], args := [d1, d2] }
  | _ => none }
def fnExactSegmentSquareRow : OpenClaim := { program := "ytmgaefillnfchaa", sum := "f0655d209d45408e58654eb59df4ab6351dafa092e78c00ca0f808368c1b9b36", func := "loop.example/g00932/laws.FnExactSegmentSquare", spec := "fnExactSegmentSquare", apart := false }
def FnExactSegmentSquareSaid : Prop := fnExactSegmentSquareRow.holds Try.pinned (OpenSpec.ofChange fnExactSegmentSquareSpec)

/-- ITS FALSE NEIGHBOUR: 'it returns false'. Refute it at one input. -/
def fnExactSegmentSquareWrong : ChangeSpec := { name := "fnExactSegmentSquare", fn := fun _ => fun
  | [d1, d2] => { results := [.lit (.bool false)], args := [d1, d2] }
  | _ => none }
def FnExactSegmentSquareWrongFalsely : Prop := fnExactSegmentSquareRow.holds Try.pinned (OpenSpec.ofChange fnExactSegmentSquareWrong)

/-- 'laws.FnExactNearerThan': WHATEVER THE INPUT: true; the input reads as it did. -/
def fnExactNearerThanSpec : ChangeSpec := { name := "fnExactNearerThan", fn := fun _ => fun
  | [d1, d2, d3] => { results := [.lit (.bool true)], args := [d1, d2, d3] }
  | _ => none }
def fnExactNearerThanRow : OpenClaim := { program := "ytmgaefillnfchaa", sum := "f0655d209d45408e58654eb59df4ab6351dafa092e78c00ca0f808368c1b9b36", func := "loop.example/g00932/laws.FnExactNearerThan", spec := "fnExactNearerThan", apart := false }
def FnExactNearerThanSaid : Prop := fnExactNearerThanRow.holds Try.pinned (OpenSpec.ofChange fnExactNearerThanSpec)

/-- ITS FALSE NEIGHBOUR: 'it returns false'. Refute it at one input. -/
def fnExactNearerThanWrong : ChangeSpec := { name := "fnExactNearerThan", fn := fun _ => fun
  | [d1, d2, d3] => { results := [.lit (.bool false)], args := [d1, d2, d3] }
  | _ => none }
def FnExactNearerThanWrongFalsely : Prop := fnExactNearerThanRow.holds Try.pinned (OpenSpec.ofChange fnExactNearerThanWrong)

/-- 'laws.FnExactGapOf': WHATEVER THE INPUT: true; the input reads as it did. -/
def fnExactGapOfSpec : ChangeSpec := { name := "fnExactGapOf", fn := fun _ => fun
  | [d1, d2] => { results := [.lit (.bool true)], args := [d1, d2] }
  | _ => none }
def fnExactGapOfRow : OpenClaim := { program := "ytmgaefillnfchaa", sum := "f0655d209d45408e58654eb59df4ab6351dafa092e78c00ca0f808368c1b9b36", func := "loop.example/g00932/laws.FnExactGapOf", spec := "fnExactGapOf", apart := false }
def FnExactGapOfSaid : Prop := fnExactGapOfRow.holds Try.pinned (OpenSpec.ofChange fnExactGapOfSpec)

/-- ITS FALSE NEIGHBOUR: 'it returns false'. Refute it at one input. -/
def fnExactGapOfWrong : ChangeSpec := { name := "fnExactGapOf", fn := fun _ => fun
  | [d1, d2] => { results := [.lit (.bool false)], args := [d1, d2] }
  | _ => none }
def FnExactGapOfWrongFalsely : Prop := fnExactGapOfRow.holds Try.pinned (OpenSpec.ofChange fnExactGapOfWrong)

/- THE SECOND FORM. 'bulk': how many values and letters a reading holds, each counted each time it is reached (what is shared counts as often as it is met; a slice's spare places count too). A statement '..UptoSaid' is the law's where the arguments, and the package variables that the reading takes, are together of bulk at most 1048576: NARROWER than '..Said'. Prove '..Said' where nothing that the law and all that it calls make is longer than what came in: it says more and counts as full. Else prove '..UptoSaid'. A law counts once. -/
mutual
def uptoBulk {H : Type} : DataW H → Nat
  | .lit (.string bytes) => bytes.length + 1
  | .lit _ => 1
  | .nil => 1
  | .ptr d => uptoBulk d + 1
  | .slice elems spare => uptoBulkAll elems + uptoBulkAll spare + 1
  | .agg parts => uptoBulkAll parts + 1
  | .iface _ d => uptoBulk d + 1
  | .map entries => uptoBulkEntries entries + 1
  | .held _ => 1
def uptoBulkAll {H : Type} : List (DataW H) → Nat
  | [] => 0
  | d :: r => uptoBulk d + uptoBulkAll r
def uptoBulkEntries {H : Type} : List (Lit × DataW H) → Nat
  | [] => 0
  | x :: r => uptoBulkEntry x + uptoBulkEntries r
def uptoBulkEntry {H : Type} : Lit × DataW H → Nat
  | (.string bytes, d) => bytes.length + uptoBulk d + 1
  | (_, d) => uptoBulk d + 1
 end
def uptoSmall : (H : Type) → List (DataW H) → Bool := fun _ ds => decide (uptoBulkAll ds ≤ 1048576)
def OpenSpec.upto (s : _root_.Go.ChangeSpec) : _root_.Go.OpenSpec := { _root_.Go.OpenSpec.ofChange s with cond := some uptoSmall }

/-- 'laws.FnExactValidSegment', WHERE WHAT IT READS IS OF BULK AT MOST 1048576: true; the input reads as it did. -/
def fnExactValidSegmentUptoRow : OpenClaim := { program := "ytmgaefillnfchaa", sum := "f0655d209d45408e58654eb59df4ab6351dafa092e78c00ca0f808368c1b9b36", func := "loop.example/g00932/laws.FnExactValidSegment", spec := "fnExactValidSegment", apart := false, narrowed := true }
def FnExactValidSegmentUptoSaid : Prop := fnExactValidSegmentUptoRow.holds Try.pinned (OpenSpec.upto fnExactValidSegmentSpec)

/-- 'laws.FnExactSideOf', WHERE WHAT IT READS IS OF BULK AT MOST 1048576: true; the input reads as it did. -/
def fnExactSideOfUptoRow : OpenClaim := { program := "ytmgaefillnfchaa", sum := "f0655d209d45408e58654eb59df4ab6351dafa092e78c00ca0f808368c1b9b36", func := "loop.example/g00932/laws.FnExactSideOf", spec := "fnExactSideOf", apart := false, narrowed := true }
def FnExactSideOfUptoSaid : Prop := fnExactSideOfUptoRow.holds Try.pinned (OpenSpec.upto fnExactSideOfSpec)

/-- 'laws.FnExactSegmentsMeet', WHERE WHAT IT READS IS OF BULK AT MOST 1048576: true; the input reads as it did. -/
def fnExactSegmentsMeetUptoRow : OpenClaim := { program := "ytmgaefillnfchaa", sum := "f0655d209d45408e58654eb59df4ab6351dafa092e78c00ca0f808368c1b9b36", func := "loop.example/g00932/laws.FnExactSegmentsMeet", spec := "fnExactSegmentsMeet", apart := false, narrowed := true }
def FnExactSegmentsMeetUptoSaid : Prop := fnExactSegmentsMeetUptoRow.holds Try.pinned (OpenSpec.upto fnExactSegmentsMeetSpec)

/-- 'laws.FnExactPointSquare', WHERE WHAT IT READS IS OF BULK AT MOST 1048576: true; the input reads as it did. -/
def fnExactPointSquareUptoRow : OpenClaim := { program := "ytmgaefillnfchaa", sum := "f0655d209d45408e58654eb59df4ab6351dafa092e78c00ca0f808368c1b9b36", func := "loop.example/g00932/laws.FnExactPointSquare", spec := "fnExactPointSquare", apart := false, narrowed := true }
def FnExactPointSquareUptoSaid : Prop := fnExactPointSquareUptoRow.holds Try.pinned (OpenSpec.upto fnExactPointSquareSpec)

/-- 'laws.FnExactSegmentSquare', WHERE WHAT IT READS IS OF BULK AT MOST 1048576: true; the input reads as it did. -/
def fnExactSegmentSquareUptoRow : OpenClaim := { program := "ytmgaefillnfchaa", sum := "f0655d209d45408e58654eb59df4ab6351dafa092e78c00ca0f808368c1b9b36", func := "loop.example/g00932/laws.FnExactSegmentSquare", spec := "fnExactSegmentSquare", apart := false, narrowed := true }
def FnExactSegmentSquareUptoSaid : Prop := fnExactSegmentSquareUptoRow.holds Try.pinned (OpenSpec.upto fnExactSegmentSquareSpec)

/-- 'laws.FnExactNearerThan', WHERE WHAT IT READS IS OF BULK AT MOST 1048576: true; the input reads as it did. -/
def fnExactNearerThanUptoRow : OpenClaim := { program := "ytmgaefillnfchaa", sum := "f0655d209d45408e58654eb59df4ab6351dafa092e78c00ca0f808368c1b9b36", func := "loop.example/g00932/laws.FnExactNearerThan", spec := "fnExactNearerThan", apart := false, narrowed := true }
def FnExactNearerThanUptoSaid : Prop := fnExactNearerThanUptoRow.holds Try.pinned (OpenSpec.upto fnExactNearerThanSpec)

/-- 'laws.FnExactGapOf', WHERE WHAT IT READS IS OF BULK AT MOST 1048576: true; the input reads as it did. -/
def fnExactGapOfUptoRow : OpenClaim := { program := "ytmgaefillnfchaa", sum := "f0655d209d45408e58654eb59df4ab6351dafa092e78c00ca0f808368c1b9b36", func := "loop.example/g00932/laws.FnExactGapOf", spec := "fnExactGapOf", apart := false, narrowed := true }
def FnExactGapOfUptoSaid : Prop := fnExactGapOfUptoRow.holds Try.pinned (OpenSpec.upto fnExactGapOfSpec)

end Rows
end Go.Proofs.Ytmgaefillnfchaa

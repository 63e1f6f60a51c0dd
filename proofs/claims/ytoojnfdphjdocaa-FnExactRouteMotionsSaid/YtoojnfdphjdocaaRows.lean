/-
  No cell of these rows narrows 'for every input' (looked for: loops, veiled, ifaces, maps, wideKeys, modest, calm, conditions, laid).
  DERIVED. THE GIVEN ROWS OF THIS SEAT. 10 by the template 'for every input the law returns true; each argument reads behind the call as it read before'; 0 by the template 'total and deterministic' (their statements: YtoojnfdphjdocaaTotals.lean).
  GIVEN WITH THE SEED: the statements are not yours to turn. If you find one false, say at which input.
  Laid BY PROGRAM, IN A SANDBOX (cutbox-rows.mjs): the forced cells as the released guide's own fill.sh prints them over the translation 2befdc88387760ae… (all of the seat's roots in one cut). By AI agents, Wed Nov 11 2026. No macro, syntax, notation, axiom, sorry.
-/
import Derived.Test.YtoojnfdphjdocaaChecked
import GoSem.Claim
import GoSem.ClaimJoined
import GoSem.ClaimMapViews
import Derived.JoinedTies
import Derived.KernelRfl
namespace Go.Proofs.Ytoojnfdphjdocaa
/- THE CELL 'sum', in the pinned program and in every row, IS THE sha256 OF THE DUMP (.gsa) THAT YtoojnfdphjdocaaProg.lean LOADS. Nothing in Lean hashes anything: it is a label: what it is worth is what the hold of that sum in a sandbox is worth. -/
noncomputable def Try.pinned : Pinned := { name := "ytoojnfdphjdocaa", sum := "2befdc88387760aef44b82a16d655612e234cb7e47a4e114e9bf8c56a48b6f5e", checked := Try.checked }
namespace Rows
def none {H : Type} : Left H := { results := [], args := [] }

/-- 'laws.FnExactSameMotion': WHATEVER THE INPUT: true; the input reads as it did. -/
def fnExactSameMotionSpec : ChangeSpec := { name := "fnExactSameMotion", fn := fun _ => fun
  | [d1, d2] => { results := [.lit (.bool true)], args := [d1, d2] }
  | _ => none }
def fnExactSameMotionRow : OpenClaim := { program := "ytoojnfdphjdocaa", sum := "2befdc88387760aef44b82a16d655612e234cb7e47a4e114e9bf8c56a48b6f5e", func := "loop.example/g00932/laws.FnExactSameMotion", spec := "fnExactSameMotion", apart := false }
def FnExactSameMotionSaid : Prop := fnExactSameMotionRow.holds Try.pinned (OpenSpec.ofChange fnExactSameMotionSpec)

/-- ITS FALSE NEIGHBOUR: 'it returns false'. Refute it at one input. -/
def fnExactSameMotionWrong : ChangeSpec := { name := "fnExactSameMotion", fn := fun _ => fun
  | [d1, d2] => { results := [.lit (.bool false)], args := [d1, d2] }
  | _ => none }
def FnExactSameMotionWrongFalsely : Prop := fnExactSameMotionRow.holds Try.pinned (OpenSpec.ofChange fnExactSameMotionWrong)

/-- 'laws.FnExactValidMotion': WHATEVER THE INPUT: true; the input reads as it did. -/
def fnExactValidMotionSpec : ChangeSpec := { name := "fnExactValidMotion", fn := fun _ => fun
  | [d] => { results := [.lit (.bool true)], args := [d] }
  | _ => none }
def fnExactValidMotionRow : OpenClaim := { program := "ytoojnfdphjdocaa", sum := "2befdc88387760aef44b82a16d655612e234cb7e47a4e114e9bf8c56a48b6f5e", func := "loop.example/g00932/laws.FnExactValidMotion", spec := "fnExactValidMotion", unfollowed := true, recurses := true, apart := false }
def FnExactValidMotionSaid : Prop := fnExactValidMotionRow.holds Try.pinned (OpenSpec.ofChange fnExactValidMotionSpec)

/-- ITS FALSE NEIGHBOUR: 'it returns false'. Refute it at one input. -/
def fnExactValidMotionWrong : ChangeSpec := { name := "fnExactValidMotion", fn := fun _ => fun
  | [d] => { results := [.lit (.bool false)], args := [d] }
  | _ => none }
def FnExactValidMotionWrongFalsely : Prop := fnExactValidMotionRow.holds Try.pinned (OpenSpec.ofChange fnExactValidMotionWrong)

/-- 'laws.FnExactDirectionAfter': WHATEVER THE INPUT: true; the input reads as it did. -/
def fnExactDirectionAfterSpec : ChangeSpec := { name := "fnExactDirectionAfter", fn := fun _ => fun
  | [d1, d2] => { results := [.lit (.bool true)], args := [d1, d2] }
  | _ => none }
def fnExactDirectionAfterRow : OpenClaim := { program := "ytoojnfdphjdocaa", sum := "2befdc88387760aef44b82a16d655612e234cb7e47a4e114e9bf8c56a48b6f5e", func := "loop.example/g00932/laws.FnExactDirectionAfter", spec := "fnExactDirectionAfter", unfollowed := true, recurses := true, apart := false }
def FnExactDirectionAfterSaid : Prop := fnExactDirectionAfterRow.holds Try.pinned (OpenSpec.ofChange fnExactDirectionAfterSpec)

/-- ITS FALSE NEIGHBOUR: 'it returns false'. Refute it at one input. -/
def fnExactDirectionAfterWrong : ChangeSpec := { name := "fnExactDirectionAfter", fn := fun _ => fun
  | [d1, d2] => { results := [.lit (.bool false)], args := [d1, d2] }
  | _ => none }
def FnExactDirectionAfterWrongFalsely : Prop := fnExactDirectionAfterRow.holds Try.pinned (OpenSpec.ofChange fnExactDirectionAfterWrong)

/-- 'laws.FnExactTurnMotion': WHATEVER THE INPUT: true; the input reads as it did. -/
def fnExactTurnMotionSpec : ChangeSpec := { name := "fnExactTurnMotion", fn := fun _ => fun
  | [d1, d2] => { results := [.lit (.bool true)], args := [d1, d2] }
  | _ => none }
def fnExactTurnMotionRow : OpenClaim := { program := "ytoojnfdphjdocaa", sum := "2befdc88387760aef44b82a16d655612e234cb7e47a4e114e9bf8c56a48b6f5e", func := "loop.example/g00932/laws.FnExactTurnMotion", spec := "fnExactTurnMotion", apart := false }
def FnExactTurnMotionSaid : Prop := fnExactTurnMotionRow.holds Try.pinned (OpenSpec.ofChange fnExactTurnMotionSpec)

/-- ITS FALSE NEIGHBOUR: 'it returns false'. Refute it at one input. -/
def fnExactTurnMotionWrong : ChangeSpec := { name := "fnExactTurnMotion", fn := fun _ => fun
  | [d1, d2] => { results := [.lit (.bool false)], args := [d1, d2] }
  | _ => none }
def FnExactTurnMotionWrongFalsely : Prop := fnExactTurnMotionRow.holds Try.pinned (OpenSpec.ofChange fnExactTurnMotionWrong)

/-- 'laws.FnExactBackMotion': WHATEVER THE INPUT: true; the input reads as it did. -/
def fnExactBackMotionSpec : ChangeSpec := { name := "fnExactBackMotion", fn := fun _ => fun
  | [d] => { results := [.lit (.bool true)], args := [d] }
  | _ => none }
def fnExactBackMotionRow : OpenClaim := { program := "ytoojnfdphjdocaa", sum := "2befdc88387760aef44b82a16d655612e234cb7e47a4e114e9bf8c56a48b6f5e", func := "loop.example/g00932/laws.FnExactBackMotion", spec := "fnExactBackMotion", unfollowed := true, recurses := true, apart := false }
def FnExactBackMotionSaid : Prop := fnExactBackMotionRow.holds Try.pinned (OpenSpec.ofChange fnExactBackMotionSpec)

/-- ITS FALSE NEIGHBOUR: 'it returns false'. Refute it at one input. -/
def fnExactBackMotionWrong : ChangeSpec := { name := "fnExactBackMotion", fn := fun _ => fun
  | [d] => { results := [.lit (.bool false)], args := [d] }
  | _ => none }
def FnExactBackMotionWrongFalsely : Prop := fnExactBackMotionRow.holds Try.pinned (OpenSpec.ofChange fnExactBackMotionWrong)

/-- 'laws.FnExactDelayMotion': WHATEVER THE INPUT: true; the input reads as it did. -/
def fnExactDelayMotionSpec : ChangeSpec := { name := "fnExactDelayMotion", fn := fun _ => fun
  | [d1, d2] => { results := [.lit (.bool true)], args := [d1, d2] }
  | _ => none }
def fnExactDelayMotionRow : OpenClaim := { program := "ytoojnfdphjdocaa", sum := "2befdc88387760aef44b82a16d655612e234cb7e47a4e114e9bf8c56a48b6f5e", func := "loop.example/g00932/laws.FnExactDelayMotion", spec := "fnExactDelayMotion", unfollowed := true, recurses := true, apart := false }
def FnExactDelayMotionSaid : Prop := fnExactDelayMotionRow.holds Try.pinned (OpenSpec.ofChange fnExactDelayMotionSpec)

/-- ITS FALSE NEIGHBOUR: 'it returns false'. Refute it at one input. -/
def fnExactDelayMotionWrong : ChangeSpec := { name := "fnExactDelayMotion", fn := fun _ => fun
  | [d1, d2] => { results := [.lit (.bool false)], args := [d1, d2] }
  | _ => none }
def FnExactDelayMotionWrongFalsely : Prop := fnExactDelayMotionRow.holds Try.pinned (OpenSpec.ofChange fnExactDelayMotionWrong)

/-- 'laws.FnExactRouteMotions': WHATEVER THE INPUT: true; the input reads as it did. -/
def fnExactRouteMotionsSpec : ChangeSpec := { name := "fnExactRouteMotions", fn := fun _ => fun
  | [d] => { results := [.lit (.bool true)], args := [d] }
  | _ => none }
def fnExactRouteMotionsRow : OpenClaim := { program := "ytoojnfdphjdocaa", sum := "2befdc88387760aef44b82a16d655612e234cb7e47a4e114e9bf8c56a48b6f5e", func := "loop.example/g00932/laws.FnExactRouteMotions", spec := "fnExactRouteMotions", apart := false }
def FnExactRouteMotionsSaid : Prop := fnExactRouteMotionsRow.holds Try.pinned (OpenSpec.ofChange fnExactRouteMotionsSpec)

/-- ITS FALSE NEIGHBOUR: 'it returns false'. Refute it at one input. -/
def fnExactRouteMotionsWrong : ChangeSpec := { name := "fnExactRouteMotions", fn := fun _ => fun
  | [d] => { results := [.lit (.bool false)], args := [d] }
  | _ => none }
def FnExactRouteMotionsWrongFalsely : Prop := fnExactRouteMotionsRow.holds Try.pinned (OpenSpec.ofChange fnExactRouteMotionsWrong)

/-- 'laws.FnExactJoinMotions': WHATEVER THE INPUT: true; the input reads as it did. -/
def fnExactJoinMotionsSpec : ChangeSpec := { name := "fnExactJoinMotions", fn := fun _ => fun
  | [d1, d2] => { results := [.lit (.bool true)], args := [d1, d2] }
  | _ => none }
def fnExactJoinMotionsRow : OpenClaim := { program := "ytoojnfdphjdocaa", sum := "2befdc88387760aef44b82a16d655612e234cb7e47a4e114e9bf8c56a48b6f5e", func := "loop.example/g00932/laws.FnExactJoinMotions", spec := "fnExactJoinMotions", unfollowed := true, recurses := true, apart := false }
def FnExactJoinMotionsSaid : Prop := fnExactJoinMotionsRow.holds Try.pinned (OpenSpec.ofChange fnExactJoinMotionsSpec)

/-- ITS FALSE NEIGHBOUR: 'it returns false'. Refute it at one input. -/
def fnExactJoinMotionsWrong : ChangeSpec := { name := "fnExactJoinMotions", fn := fun _ => fun
  | [d1, d2] => { results := [.lit (.bool false)], args := [d1, d2] }
  | _ => none }
def FnExactJoinMotionsWrongFalsely : Prop := fnExactJoinMotionsRow.holds Try.pinned (OpenSpec.ofChange fnExactJoinMotionsWrong)

/-- 'laws.FnExactFirstConflict': WHATEVER THE INPUT: true; the input reads as it did. -/
def fnExactFirstConflictSpec : ChangeSpec := { name := "fnExactFirstConflict", fn := fun _ => fun
  | [d1, d2, d3] => { results := [.lit (.bool true)], args := [d1, d2, d3] }
  | _ => none }
def fnExactFirstConflictRow : OpenClaim := { program := "ytoojnfdphjdocaa", sum := "2befdc88387760aef44b82a16d655612e234cb7e47a4e114e9bf8c56a48b6f5e", func := "loop.example/g00932/laws.FnExactFirstConflict", spec := "fnExactFirstConflict", unfollowed := true, recurses := true, apart := false }
def FnExactFirstConflictSaid : Prop := fnExactFirstConflictRow.holds Try.pinned (OpenSpec.ofChange fnExactFirstConflictSpec)

/-- ITS FALSE NEIGHBOUR: 'it returns false'. Refute it at one input. -/
def fnExactFirstConflictWrong : ChangeSpec := { name := "fnExactFirstConflict", fn := fun _ => fun
  | [d1, d2, d3] => { results := [.lit (.bool false)], args := [d1, d2, d3] }
  | _ => none }
def FnExactFirstConflictWrongFalsely : Prop := fnExactFirstConflictRow.holds Try.pinned (OpenSpec.ofChange fnExactFirstConflictWrong)

/-- 'laws.FnExactLeastDelay': WHATEVER THE INPUT: true; the input reads as it did. -/
def fnExactLeastDelaySpec : ChangeSpec := { name := "fnExactLeastDelay", fn := fun _ => fun
  | [d1, d2, d3] => { results := [.lit (.bool true)], args := [d1, d2, d3] }
  | _ => none }
def fnExactLeastDelayRow : OpenClaim := { program := "ytoojnfdphjdocaa", sum := "2befdc88387760aef44b82a16d655612e234cb7e47a4e114e9bf8c56a48b6f5e", func := "loop.example/g00932/laws.FnExactLeastDelay", spec := "fnExactLeastDelay", unfollowed := true, recurses := true, apart := false }
def FnExactLeastDelaySaid : Prop := fnExactLeastDelayRow.holds Try.pinned (OpenSpec.ofChange fnExactLeastDelaySpec)

/-- ITS FALSE NEIGHBOUR: 'it returns false'. Refute it at one input. -/
def fnExactLeastDelayWrong : ChangeSpec := { name := "fnExactLeastDelay", fn := fun _ => fun
  | [d1, d2, d3] => { results := [.lit (.bool false)], args := [d1, d2, d3] }
  | _ => none }
def FnExactLeastDelayWrongFalsely : Prop := fnExactLeastDelayRow.holds Try.pinned (OpenSpec.ofChange fnExactLeastDelayWrong)

/- THE SECOND FORM. 'bulk': how many values and letters a reading holds, each counted each time it is reached (what is shared counts as often as it is met; a slice's spare places count too). A statement '..UptoSaid' is the law's where the arguments, and the package variables that the reading takes, are together of bulk at most 1048576: NARROWER than '..Said'. Prove '..Said' where nothing that the law and all that it calls make is longer than what came in: it says more and counts as full. Else prove '..UptoSaid'. A law counts once. -/
mutual
def uptoBulk {H : Type} : DataW H → Nat
  | .lit (.string bytes) => bytes.length + 1
  | .lit _ => 1
  | .nil => 1
  | .ptr d => uptoBulk d + 1
  | .slice elems spare => uptoBulkAll elems + uptoBulkAll spare + 1
  | .agg parts => uptoBulkAll parts + 1
  | .iface _ d => uptoBulk d + 1
  | .map entries => uptoBulkEntries entries + 1
  | .held _ => 1
def uptoBulkAll {H : Type} : List (DataW H) → Nat
  | [] => 0
  | d :: r => uptoBulk d + uptoBulkAll r
def uptoBulkEntries {H : Type} : List (Lit × DataW H) → Nat
  | [] => 0
  | x :: r => uptoBulkEntry x + uptoBulkEntries r
def uptoBulkEntry {H : Type} : Lit × DataW H → Nat
  | (.string bytes, d) => bytes.length + uptoBulk d + 1
  | (_, d) => uptoBulk d + 1
 end
def uptoSmall : (H : Type) → List (DataW H) → Bool := fun _ ds => decide (uptoBulkAll ds ≤ 1048576)
def OpenSpec.upto (s : _root_.Go.ChangeSpec) : _root_.Go.OpenSpec := { _root_.Go.OpenSpec.ofChange s with cond := some uptoSmall }

/-- 'laws.FnExactSameMotion', WHERE WHAT IT READS IS OF BULK AT MOST 1048576: true; the input reads as it did. -/
def fnExactSameMotionUptoRow : OpenClaim := { program := "ytoojnfdphjdocaa", sum := "2befdc88387760aef44b82a16d655612e234cb7e47a4e114e9bf8c56a48b6f5e", func := "loop.example/g00932/laws.FnExactSameMotion", spec := "fnExactSameMotion", apart := false, narrowed := true }
def FnExactSameMotionUptoSaid : Prop := fnExactSameMotionUptoRow.holds Try.pinned (OpenSpec.upto fnExactSameMotionSpec)

/-- 'laws.FnExactValidMotion', WHERE WHAT IT READS IS OF BULK AT MOST 1048576: true; the input reads as it did. -/
def fnExactValidMotionUptoRow : OpenClaim := { program := "ytoojnfdphjdocaa", sum := "2befdc88387760aef44b82a16d655612e234cb7e47a4e114e9bf8c56a48b6f5e", func := "loop.example/g00932/laws.FnExactValidMotion", spec := "fnExactValidMotion", unfollowed := true, recurses := true, apart := false, narrowed := true }
def FnExactValidMotionUptoSaid : Prop := fnExactValidMotionUptoRow.holds Try.pinned (OpenSpec.upto fnExactValidMotionSpec)

/-- 'laws.FnExactDirectionAfter', WHERE WHAT IT READS IS OF BULK AT MOST 1048576: true; the input reads as it did. -/
def fnExactDirectionAfterUptoRow : OpenClaim := { program := "ytoojnfdphjdocaa", sum := "2befdc88387760aef44b82a16d655612e234cb7e47a4e114e9bf8c56a48b6f5e", func := "loop.example/g00932/laws.FnExactDirectionAfter", spec := "fnExactDirectionAfter", unfollowed := true, recurses := true, apart := false, narrowed := true }
def FnExactDirectionAfterUptoSaid : Prop := fnExactDirectionAfterUptoRow.holds Try.pinned (OpenSpec.upto fnExactDirectionAfterSpec)

/-- 'laws.FnExactTurnMotion', WHERE WHAT IT READS IS OF BULK AT MOST 1048576: true; the input reads as it did. -/
def fnExactTurnMotionUptoRow : OpenClaim := { program := "ytoojnfdphjdocaa", sum := "2befdc88387760aef44b82a16d655612e234cb7e47a4e114e9bf8c56a48b6f5e", func := "loop.example/g00932/laws.FnExactTurnMotion", spec := "fnExactTurnMotion", apart := false, narrowed := true }
def FnExactTurnMotionUptoSaid : Prop := fnExactTurnMotionUptoRow.holds Try.pinned (OpenSpec.upto fnExactTurnMotionSpec)

/-- 'laws.FnExactBackMotion', WHERE WHAT IT READS IS OF BULK AT MOST 1048576: true; the input reads as it did. -/
def fnExactBackMotionUptoRow : OpenClaim := { program := "ytoojnfdphjdocaa", sum := "2befdc88387760aef44b82a16d655612e234cb7e47a4e114e9bf8c56a48b6f5e", func := "loop.example/g00932/laws.FnExactBackMotion", spec := "fnExactBackMotion", unfollowed := true, recurses := true, apart := false, narrowed := true }
def FnExactBackMotionUptoSaid : Prop := fnExactBackMotionUptoRow.holds Try.pinned (OpenSpec.upto fnExactBackMotionSpec)

/-- 'laws.FnExactDelayMotion', WHERE WHAT IT READS IS OF BULK AT MOST 1048576: true; the input reads as it did. -/
def fnExactDelayMotionUptoRow : OpenClaim := { program := "ytoojnfdphjdocaa", sum := "2befdc88387760aef44b82a16d655612e234cb7e47a4e114e9bf8c56a48b6f5e", func := "loop.example/g00932/laws.FnExactDelayMotion", spec := "fnExactDelayMotion", unfollowed := true, recurses := true, apart := false, narrowed := true }
def FnExactDelayMotionUptoSaid : Prop := fnExactDelayMotionUptoRow.holds Try.pinned (OpenSpec.upto fnExactDelayMotionSpec)

/-- 'laws.FnExactRouteMotions', WHERE WHAT IT READS IS OF BULK AT MOST 1048576: true; the input reads as it did. -/
def fnExactRouteMotionsUptoRow : OpenClaim := { program := "ytoojnfdphjdocaa", sum := "2befdc88387760aef44b82a16d655612e234cb7e47a4e114e9bf8c56a48b6f5e", func := "loop.example/g00932/laws.FnExactRouteMotions", spec := "fnExactRouteMotions", apart := false, narrowed := true }
def FnExactRouteMotionsUptoSaid : Prop := fnExactRouteMotionsUptoRow.holds Try.pinned (OpenSpec.upto fnExactRouteMotionsSpec)

/-- 'laws.FnExactJoinMotions', WHERE WHAT IT READS IS OF BULK AT MOST 1048576: true; the input reads as it did. -/
def fnExactJoinMotionsUptoRow : OpenClaim := { program := "ytoojnfdphjdocaa", sum := "2befdc88387760aef44b82a16d655612e234cb7e47a4e114e9bf8c56a48b6f5e", func := "loop.example/g00932/laws.FnExactJoinMotions", spec := "fnExactJoinMotions", unfollowed := true, recurses := true, apart := false, narrowed := true }
def FnExactJoinMotionsUptoSaid : Prop := fnExactJoinMotionsUptoRow.holds Try.pinned (OpenSpec.upto fnExactJoinMotionsSpec)

/-- 'laws.FnExactFirstConflict', WHERE WHAT IT READS IS OF BULK AT MOST 1048576: true; the input reads as it did. -/
def fnExactFirstConflictUptoRow : OpenClaim := { program := "ytoojnfdphjdocaa", sum := "2befdc88387760aef44b82a16d655612e234cb7e47a4e114e9bf8c56a48b6f5e", func := "loop.example/g00932/laws.FnExactFirstConflict", spec := "fnExactFirstConflict", unfollowed := true, recurses := true, apart := false, narrowed := true }
def FnExactFirstConflictUptoSaid : Prop := fnExactFirstConflictUptoRow.holds Try.pinned (OpenSpec.upto fnExactFirstConflictSpec)

/-- 'laws.FnExactLeastDelay', WHERE WHAT IT READS IS OF BULK AT MOST 1048576: true; the input reads as it did. -/
def fnExactLeastDelayUptoRow : OpenClaim := { program := "ytoojnfdphjdocaa", sum := "2befdc88387760aef44b82a16d655612e234cb7e47a4e114e9bf8c56a48b6f5e", func := "loop.example/g00932/laws.FnExactLeastDelay", spec := "fnExactLeastDelay", unfollowed := true, recurses := true, apart := false, narrowed := true }
def FnExactLeastDelayUptoSaid : Prop := fnExactLeastDelayUptoRow.holds Try.pinned (OpenSpec.upto fnExactLeastDelaySpec)

end Rows
end Go.Proofs.Ytoojnfdphjdocaa

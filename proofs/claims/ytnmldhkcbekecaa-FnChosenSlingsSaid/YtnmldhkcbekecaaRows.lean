/-
  No cell of these rows narrows 'for every input' (looked for: loops, veiled, ifaces, maps, wideKeys, modest, calm, conditions, laid).
  DERIVED. THE GIVEN ROWS OF THIS SEAT. 10 by the template 'for every input the law returns true; each argument reads behind the call as it read before'; 0 by the template 'total and deterministic' (their statements: YtnmldhkcbekecaaTotals.lean).
  GIVEN WITH THE SEED: the statements are not yours to turn. If you find one false, say at which input.
  Laid BY PROGRAM, IN A SANDBOX (cutbox-rows.mjs): the forced cells as the released guide's own fill.sh prints them over the translation 0a9a046d19c49cb5… (all of the seat's roots in one cut). By AI agents, Wed Nov 11 2026. No macro, syntax, notation, axiom, sorry.
-/
import Derived.Test.YtnmldhkcbekecaaChecked
import GoSem.Claim
import GoSem.ClaimJoined
import GoSem.ClaimMapViews
import Derived.JoinedTies
import Derived.KernelRfl
namespace Go.Proofs.Ytnmldhkcbekecaa
/- THE CELL 'sum', in the pinned program and in every row, IS THE sha256 OF THE DUMP (.gsa) THAT YtnmldhkcbekecaaProg.lean LOADS. Nothing in Lean hashes anything: it is a label: what it is worth is what the hold of that sum in a sandbox is worth. -/
noncomputable def Try.pinned : Pinned := { name := "ytnmldhkcbekecaa", sum := "0a9a046d19c49cb573b4cb474744edb7196dc1676b86f0a334c152492732f5a0", checked := Try.checked }
namespace Rows
def none {H : Type} : Left H := { results := [], args := [] }

/-- 'laws.FnExactValidSling': WHATEVER THE INPUT: true; the input reads as it did. -/
def fnExactValidSlingSpec : ChangeSpec := { name := "fnExactValidSling", fn := fun _ => fun
  | [d] => { results := [.lit (.bool true)], args := [d] }
  | _ => none }
def fnExactValidSlingRow : OpenClaim := { program := "ytnmldhkcbekecaa", sum := "0a9a046d19c49cb573b4cb474744edb7196dc1676b86f0a334c152492732f5a0", func := "loop.example/g00932/laws.FnExactValidSling", spec := "fnExactValidSling", apart := false }
def FnExactValidSlingSaid : Prop := fnExactValidSlingRow.holds Try.pinned (OpenSpec.ofChange fnExactValidSlingSpec)

/-- ITS FALSE NEIGHBOUR: 'it returns false'. Refute it at one input. -/
def fnExactValidSlingWrong : ChangeSpec := { name := "fnExactValidSling", fn := fun _ => fun
  | [d] => { results := [.lit (.bool false)], args := [d] }
  | _ => none }
def FnExactValidSlingWrongFalsely : Prop := fnExactValidSlingRow.holds Try.pinned (OpenSpec.ofChange fnExactValidSlingWrong)

/-- 'laws.FnExactHookMass': WHATEVER THE INPUT: true; the input reads as it did. -/
def fnExactHookMassSpec : ChangeSpec := { name := "fnExactHookMass", fn := fun _ => fun
  | [d1, d2] => { results := [.lit (.bool true)], args := [d1, d2] }
  | _ => none }
def fnExactHookMassRow : OpenClaim := { program := "ytnmldhkcbekecaa", sum := "0a9a046d19c49cb573b4cb474744edb7196dc1676b86f0a334c152492732f5a0", func := "loop.example/g00932/laws.FnExactHookMass", spec := "fnExactHookMass", apart := false }
def FnExactHookMassSaid : Prop := fnExactHookMassRow.holds Try.pinned (OpenSpec.ofChange fnExactHookMassSpec)

/-- ITS FALSE NEIGHBOUR: 'it returns false'. Refute it at one input. -/
def fnExactHookMassWrong : ChangeSpec := { name := "fnExactHookMass", fn := fun _ => fun
  | [d1, d2] => { results := [.lit (.bool false)], args := [d1, d2] }
  | _ => none }
def FnExactHookMassWrongFalsely : Prop := fnExactHookMassRow.holds Try.pinned (OpenSpec.ofChange fnExactHookMassWrong)

/-- 'laws.FnExactAngleClass': WHATEVER THE INPUT: true; the input reads as it did. -/
def fnExactAngleClassSpec : ChangeSpec := { name := "fnExactAngleClass", fn := fun _ => fun
  | [d] => { results := [.lit (.bool true)], args := [d] }
  | _ => none }
def fnExactAngleClassRow : OpenClaim := { program := "ytnmldhkcbekecaa", sum := "0a9a046d19c49cb573b4cb474744edb7196dc1676b86f0a334c152492732f5a0", func := "loop.example/g00932/laws.FnExactAngleClass", spec := "fnExactAngleClass", apart := false }
def FnExactAngleClassSaid : Prop := fnExactAngleClassRow.holds Try.pinned (OpenSpec.ofChange fnExactAngleClassSpec)

/-- ITS FALSE NEIGHBOUR: 'it returns false'. Refute it at one input. -/
def fnExactAngleClassWrong : ChangeSpec := { name := "fnExactAngleClass", fn := fun _ => fun
  | [d] => { results := [.lit (.bool false)], args := [d] }
  | _ => none }
def FnExactAngleClassWrongFalsely : Prop := fnExactAngleClassRow.holds Try.pinned (OpenSpec.ofChange fnExactAngleClassWrong)

/-- 'laws.FnExactLegLength': WHATEVER THE INPUT: true; the input reads as it did. -/
def fnExactLegLengthSpec : ChangeSpec := { name := "fnExactLegLength", fn := fun _ => fun
  | [d] => { results := [.lit (.bool true)], args := [d] }
  | _ => none }
def fnExactLegLengthRow : OpenClaim := { program := "ytnmldhkcbekecaa", sum := "0a9a046d19c49cb573b4cb474744edb7196dc1676b86f0a334c152492732f5a0", func := "loop.example/g00932/laws.FnExactLegLength", spec := "fnExactLegLength", apart := false }
def FnExactLegLengthSaid : Prop := fnExactLegLengthRow.holds Try.pinned (OpenSpec.ofChange fnExactLegLengthSpec)

/-- ITS FALSE NEIGHBOUR: 'it returns false'. Refute it at one input. -/
def fnExactLegLengthWrong : ChangeSpec := { name := "fnExactLegLength", fn := fun _ => fun
  | [d] => { results := [.lit (.bool false)], args := [d] }
  | _ => none }
def FnExactLegLengthWrongFalsely : Prop := fnExactLegLengthRow.holds Try.pinned (OpenSpec.ofChange fnExactLegLengthWrong)

/-- 'laws.FnExactForceUp': WHATEVER THE INPUT: true; the input reads as it did. -/
def fnExactForceUpSpec : ChangeSpec := { name := "fnExactForceUp", fn := fun _ => fun
  | [d1, d2] => { results := [.lit (.bool true)], args := [d1, d2] }
  | _ => none }
def fnExactForceUpRow : OpenClaim := { program := "ytnmldhkcbekecaa", sum := "0a9a046d19c49cb573b4cb474744edb7196dc1676b86f0a334c152492732f5a0", func := "loop.example/g00932/laws.FnExactForceUp", spec := "fnExactForceUp", apart := false }
def FnExactForceUpSaid : Prop := fnExactForceUpRow.holds Try.pinned (OpenSpec.ofChange fnExactForceUpSpec)

/-- ITS FALSE NEIGHBOUR: 'it returns false'. Refute it at one input. -/
def fnExactForceUpWrong : ChangeSpec := { name := "fnExactForceUp", fn := fun _ => fun
  | [d1, d2] => { results := [.lit (.bool false)], args := [d1, d2] }
  | _ => none }
def FnExactForceUpWrongFalsely : Prop := fnExactForceUpRow.holds Try.pinned (OpenSpec.ofChange fnExactForceUpWrong)

/-- 'laws.FnExactLegForce': WHATEVER THE INPUT: true; the input reads as it did. -/
def fnExactLegForceSpec : ChangeSpec := { name := "fnExactLegForce", fn := fun _ => fun
  | [d1, d2] => { results := [.lit (.bool true)], args := [d1, d2] }
  | _ => none }
def fnExactLegForceRow : OpenClaim := { program := "ytnmldhkcbekecaa", sum := "0a9a046d19c49cb573b4cb474744edb7196dc1676b86f0a334c152492732f5a0", func := "loop.example/g00932/laws.FnExactLegForce", spec := "fnExactLegForce", apart := false }
def FnExactLegForceSaid : Prop := fnExactLegForceRow.holds Try.pinned (OpenSpec.ofChange fnExactLegForceSpec)

/-- ITS FALSE NEIGHBOUR: 'it returns false'. Refute it at one input. -/
def fnExactLegForceWrong : ChangeSpec := { name := "fnExactLegForce", fn := fun _ => fun
  | [d1, d2] => { results := [.lit (.bool false)], args := [d1, d2] }
  | _ => none }
def FnExactLegForceWrongFalsely : Prop := fnExactLegForceRow.holds Try.pinned (OpenSpec.ofChange fnExactLegForceWrong)

/-- 'laws.FnExactGreatestWeight': WHATEVER THE INPUT: true; the input reads as it did. -/
def fnExactGreatestWeightSpec : ChangeSpec := { name := "fnExactGreatestWeight", fn := fun _ => fun
  | [d1, d2] => { results := [.lit (.bool true)], args := [d1, d2] }
  | _ => none }
def fnExactGreatestWeightRow : OpenClaim := { program := "ytnmldhkcbekecaa", sum := "0a9a046d19c49cb573b4cb474744edb7196dc1676b86f0a334c152492732f5a0", func := "loop.example/g00932/laws.FnExactGreatestWeight", spec := "fnExactGreatestWeight", apart := false }
def FnExactGreatestWeightSaid : Prop := fnExactGreatestWeightRow.holds Try.pinned (OpenSpec.ofChange fnExactGreatestWeightSpec)

/-- ITS FALSE NEIGHBOUR: 'it returns false'. Refute it at one input. -/
def fnExactGreatestWeightWrong : ChangeSpec := { name := "fnExactGreatestWeight", fn := fun _ => fun
  | [d1, d2] => { results := [.lit (.bool false)], args := [d1, d2] }
  | _ => none }
def FnExactGreatestWeightWrongFalsely : Prop := fnExactGreatestWeightRow.holds Try.pinned (OpenSpec.ofChange fnExactGreatestWeightWrong)

/-- 'laws.FnExactLeastRise': WHATEVER THE INPUT: true; the input reads as it did. -/
def fnExactLeastRiseSpec : ChangeSpec := { name := "fnExactLeastRise", fn := fun _ => fun
  | [d1, d2, d3] => { results := [.lit (.bool true)], args := [d1, d2, d3] }
  | _ => none }
def fnExactLeastRiseRow : OpenClaim := { program := "ytnmldhkcbekecaa", sum := "0a9a046d19c49cb573b4cb474744edb7196dc1676b86f0a334c152492732f5a0", func := "loop.example/g00932/laws.FnExactLeastRise", spec := "fnExactLeastRise", apart := false }
def FnExactLeastRiseSaid : Prop := fnExactLeastRiseRow.holds Try.pinned (OpenSpec.ofChange fnExactLeastRiseSpec)

/-- ITS FALSE NEIGHBOUR: 'it returns false'. Refute it at one input. -/
def fnExactLeastRiseWrong : ChangeSpec := { name := "fnExactLeastRise", fn := fun _ => fun
  | [d1, d2, d3] => { results := [.lit (.bool false)], args := [d1, d2, d3] }
  | _ => none }
def FnExactLeastRiseWrongFalsely : Prop := fnExactLeastRiseRow.holds Try.pinned (OpenSpec.ofChange fnExactLeastRiseWrong)

/-- 'laws.FnExactChooseSling': WHATEVER THE INPUT: true; the input reads as it did. -/
def fnExactChooseSlingSpec : ChangeSpec := { name := "fnExactChooseSling", fn := fun _ => fun
  | [d1, d2, d3] => { results := [.lit (.bool true)], args := [d1, d2, d3] }
  | _ => none }
def fnExactChooseSlingRow : OpenClaim := { program := "ytnmldhkcbekecaa", sum := "0a9a046d19c49cb573b4cb474744edb7196dc1676b86f0a334c152492732f5a0", func := "loop.example/g00932/laws.FnExactChooseSling", spec := "fnExactChooseSling", unfollowed := true, recurses := true, apart := false }
def FnExactChooseSlingSaid : Prop := fnExactChooseSlingRow.holds Try.pinned (OpenSpec.ofChange fnExactChooseSlingSpec)

/-- ITS FALSE NEIGHBOUR: 'it returns false'. Refute it at one input. -/
def fnExactChooseSlingWrong : ChangeSpec := { name := "fnExactChooseSling", fn := fun _ => fun
  | [d1, d2, d3] => { results := [.lit (.bool false)], args := [d1, d2, d3] }
  | _ => none }
def FnExactChooseSlingWrongFalsely : Prop := fnExactChooseSlingRow.holds Try.pinned (OpenSpec.ofChange fnExactChooseSlingWrong)

/-- 'laws.FnChosenSlings': WHATEVER THE INPUT: true; the input reads as it did. -/
def fnChosenSlingsSpec : ChangeSpec := { name := "fnChosenSlings", fn := fun _ => fun
  | [d] => { results := [.lit (.bool true)], args := [d] }
  | _ => none }
def fnChosenSlingsRow : OpenClaim := { program := "ytnmldhkcbekecaa", sum := "0a9a046d19c49cb573b4cb474744edb7196dc1676b86f0a334c152492732f5a0", func := "loop.example/g00932/laws.FnChosenSlings", spec := "fnChosenSlings", unfollowed := true, recurses := true, apart := false }
def FnChosenSlingsSaid : Prop := fnChosenSlingsRow.holds Try.pinned (OpenSpec.ofChange fnChosenSlingsSpec)

/-- ITS FALSE NEIGHBOUR: 'it returns false'. Refute it at one input. -/
def fnChosenSlingsWrong : ChangeSpec := { name := "fnChosenSlings", fn := fun _ => fun
  | [d] => { results := [.lit (.bool false)], args := [d] }
  | _ => none }
def FnChosenSlingsWrongFalsely : Prop := fnChosenSlingsRow.holds Try.pinned (OpenSpec.ofChange fnChosenSlingsWrong)

/- THE SECOND FORM. 'bulk': how many values and letters a reading holds, each counted each time it is reached (what is shared counts as often as it is met; a slice's spare places count too). A statement '..UptoSaid' is the law's where the arguments, and the package variables that the reading takes, are together of bulk at most 1048576: NARROWER than '..Said'. Prove '..Said' where nothing that the law and all that it calls make is longer than what came in: it says more and counts as full. Else prove '..UptoSaid'. A law counts once. -/
mutual
def uptoBulk {H : Type} : DataW H → Nat
  | .lit (.string bytes) => bytes.length + 1
  | .lit _ => 1
  | .nil => 1
  | .ptr d => uptoBulk d + 1
  | .slice elems spare => uptoBulkAll elems + uptoBulkAll spare + 1
  | .agg parts => uptoBulkAll parts + 1
  | .iface _ d => uptoBulk d + 1
  | .map entries => uptoBulkEntries entries + 1
  | .held _ => 1
def uptoBulkAll {H : Type} : List (DataW H) → Nat
  | [] => 0
  | d :: r => uptoBulk d + uptoBulkAll r
def uptoBulkEntries {H : Type} : List (Lit × DataW H) → Nat
  | [] => 0
  | x :: r => uptoBulkEntry x + uptoBulkEntries r
def uptoBulkEntry {H : Type} : Lit × DataW H → Nat
  | (.string bytes, d) => bytes.length + uptoBulk d + 1
  | (_, d) => uptoBulk d + 1
 end
def uptoSmall : (H : Type) → List (DataW H) → Bool := fun _ ds => decide (uptoBulkAll ds ≤ 1048576)
def OpenSpec.upto (s : _root_.Go.ChangeSpec) : _root_.Go.OpenSpec := { _root_.Go.OpenSpec.ofChange s with cond := some uptoSmall }

/-- 'laws.FnExactValidSling', WHERE WHAT IT READS IS OF BULK AT MOST 1048576: true; the input reads as it did. -/
def fnExactValidSlingUptoRow : OpenClaim := { program := "ytnmldhkcbekecaa", sum := "0a9a046d19c49cb573b4cb474744edb7196dc1676b86f0a334c152492732f5a0", func := "loop.example/g00932/laws.FnExactValidSling", spec := "fnExactValidSling", apart := false, narrowed := true }
def FnExactValidSlingUptoSaid : Prop := fnExactValidSlingUptoRow.holds Try.pinned (OpenSpec.upto fnExactValidSlingSpec)

/-- 'laws.FnExactHookMass', WHERE WHAT IT READS IS OF BULK AT MOST 1048576: true; the input reads as it did. -/
def fnExactHookMassUptoRow : OpenClaim := { program := "ytnmldhkcbekecaa", sum := "0a9a046d19c49cb573b4cb474744edb7196dc1676b86f0a334c152492732f5a0", func := "loop.example/g00932/laws.FnExactHookMass", spec := "fnExactHookMass", apart := false, narrowed := true }
def FnExactHookMassUptoSaid : Prop := fnExactHookMassUptoRow.holds Try.pinned (OpenSpec.upto fnExactHookMassSpec)

/-- 'laws.FnExactAngleClass', WHERE WHAT IT READS IS OF BULK AT MOST 1048576: true; the input reads as it did. -/
def fnExactAngleClassUptoRow : OpenClaim := { program := "ytnmldhkcbekecaa", sum := "0a9a046d19c49cb573b4cb474744edb7196dc1676b86f0a334c152492732f5a0", func := "loop.example/g00932/laws.FnExactAngleClass", spec := "fnExactAngleClass", apart := false, narrowed := true }
def FnExactAngleClassUptoSaid : Prop := fnExactAngleClassUptoRow.holds Try.pinned (OpenSpec.upto fnExactAngleClassSpec)

/-- 'laws.FnExactLegLength', WHERE WHAT IT READS IS OF BULK AT MOST 1048576: true; the input reads as it did. -/
def fnExactLegLengthUptoRow : OpenClaim := { program := "ytnmldhkcbekecaa", sum := "0a9a046d19c49cb573b4cb474744edb7196dc1676b86f0a334c152492732f5a0", func := "loop.example/g00932/laws.FnExactLegLength", spec := "fnExactLegLength", apart := false, narrowed := true }
def FnExactLegLengthUptoSaid : Prop := fnExactLegLengthUptoRow.holds Try.pinned (OpenSpec.upto fnExactLegLengthSpec)

/-- 'laws.FnExactForceUp', WHERE WHAT IT READS IS OF BULK AT MOST 1048576: true; the input reads as it did. -/
def fnExactForceUpUptoRow : OpenClaim := { program := "ytnmldhkcbekecaa", sum := "0a9a046d19c49cb573b4cb474744edb7196dc1676b86f0a334c152492732f5a0", func := "loop.example/g00932/laws.FnExactForceUp", spec := "fnExactForceUp", apart := false, narrowed := true }
def FnExactForceUpUptoSaid : Prop := fnExactForceUpUptoRow.holds Try.pinned (OpenSpec.upto fnExactForceUpSpec)

/-- 'laws.FnExactLegForce', WHERE WHAT IT READS IS OF BULK AT MOST 1048576: true; the input reads as it did. -/
def fnExactLegForceUptoRow : OpenClaim := { program := "ytnmldhkcbekecaa", sum := "0a9a046d19c49cb573b4cb474744edb7196dc1676b86f0a334c152492732f5a0", func := "loop.example/g00932/laws.FnExactLegForce", spec := "fnExactLegForce", apart := false, narrowed := true }
def FnExactLegForceUptoSaid : Prop := fnExactLegForceUptoRow.holds Try.pinned (OpenSpec.upto fnExactLegForceSpec)

/-- 'laws.FnExactGreatestWeight', WHERE WHAT IT READS IS OF BULK AT MOST 1048576: true; the input reads as it did. -/
def fnExactGreatestWeightUptoRow : OpenClaim := { program := "ytnmldhkcbekecaa", sum := "0a9a046d19c49cb573b4cb474744edb7196dc1676b86f0a334c152492732f5a0", func := "loop.example/g00932/laws.FnExactGreatestWeight", spec := "fnExactGreatestWeight", apart := false, narrowed := true }
def FnExactGreatestWeightUptoSaid : Prop := fnExactGreatestWeightUptoRow.holds Try.pinned (OpenSpec.upto fnExactGreatestWeightSpec)

/-- 'laws.FnExactLeastRise', WHERE WHAT IT READS IS OF BULK AT MOST 1048576: true; the input reads as it did. -/
def fnExactLeastRiseUptoRow : OpenClaim := { program := "ytnmldhkcbekecaa", sum := "0a9a046d19c49cb573b4cb474744edb7196dc1676b86f0a334c152492732f5a0", func := "loop.example/g00932/laws.FnExactLeastRise", spec := "fnExactLeastRise", apart := false, narrowed := true }
def FnExactLeastRiseUptoSaid : Prop := fnExactLeastRiseUptoRow.holds Try.pinned (OpenSpec.upto fnExactLeastRiseSpec)

/-- 'laws.FnExactChooseSling', WHERE WHAT IT READS IS OF BULK AT MOST 1048576: true; the input reads as it did. -/
def fnExactChooseSlingUptoRow : OpenClaim := { program := "ytnmldhkcbekecaa", sum := "0a9a046d19c49cb573b4cb474744edb7196dc1676b86f0a334c152492732f5a0", func := "loop.example/g00932/laws.FnExactChooseSling", spec := "fnExactChooseSling", unfollowed := true, recurses := true, apart := false, narrowed := true }
def FnExactChooseSlingUptoSaid : Prop := fnExactChooseSlingUptoRow.holds Try.pinned (OpenSpec.upto fnExactChooseSlingSpec)

/-- 'laws.FnChosenSlings', WHERE WHAT IT READS IS OF BULK AT MOST 1048576: true; the input reads as it did. -/
def fnChosenSlingsUptoRow : OpenClaim := { program := "ytnmldhkcbekecaa", sum := "0a9a046d19c49cb573b4cb474744edb7196dc1676b86f0a334c152492732f5a0", func := "loop.example/g00932/laws.FnChosenSlings", spec := "fnChosenSlings", unfollowed := true, recurses := true, apart := false, narrowed := true }
def FnChosenSlingsUptoSaid : Prop := fnChosenSlingsUptoRow.holds Try.pinned (OpenSpec.upto fnChosenSlingsSpec)

end Rows
end Go.Proofs.Ytnmldhkcbekecaa

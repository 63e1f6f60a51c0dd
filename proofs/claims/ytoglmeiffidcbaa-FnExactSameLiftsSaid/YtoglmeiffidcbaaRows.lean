/-
  No cell of these rows narrows 'for every input' (looked for: loops, veiled, ifaces, maps, wideKeys, modest, calm, conditions, laid).
  DERIVED. THE GIVEN ROWS OF THIS SEAT. 9 by the template 'for every input the law returns true; each argument reads behind the call as it read before'; 0 by the template 'total and deterministic' (their statements: YtoglmeiffidcbaaTotals.lean).
  GIVEN WITH THE SEED: the statements are not yours to turn. If you find one false, say at which input.
  Laid BY PROGRAM, IN A SANDBOX (cutbox-rows.mjs): the forced cells as the released guide's own fill.sh prints them over the translation 5fd6343066586b93… (all of the seat's roots in one cut). By AI agents, Wed Nov 11 2026. No macro, syntax, notation, axiom, sorry.
-/
import Derived.Test.YtoglmeiffidcbaaChecked
import GoSem.Claim
import GoSem.ClaimJoined
import GoSem.ClaimMapViews
import Derived.JoinedTies
import Derived.KernelRfl
namespace Go.Proofs.Ytoglmeiffidcbaa
/- THE CELL 'sum', in the pinned program and in every row, IS THE sha256 OF THE DUMP (.gsa) THAT YtoglmeiffidcbaaProg.lean LOADS. Nothing in Lean hashes anything: it is a label: what it is worth is what the hold of that sum in a sandbox is worth. -/
noncomputable def Try.pinned : Pinned := { name := "ytoglmeiffidcbaa", sum := "5fd6343066586b933bdad49c2b3a8653c72c3656adcefdd5fa52d0814f80045c", checked := Try.checked }
namespace Rows
def none {H : Type} : Left H := { results := [], args := [] }

/-- 'laws.FnExactValidSpeeds': WHATEVER THE INPUT: true; the input reads as it did. -/
def fnExactValidSpeedsSpec : ChangeSpec := { name := "fnExactValidSpeeds", fn := fun _ => fun
  | [d] => { results := [.lit (.bool true)], args := [d] }
  | _ => none }
def fnExactValidSpeedsRow : OpenClaim := { program := "ytoglmeiffidcbaa", sum := "5fd6343066586b933bdad49c2b3a8653c72c3656adcefdd5fa52d0814f80045c", func := "loop.example/g00932/laws.FnExactValidSpeeds", spec := "fnExactValidSpeeds", apart := false }
def FnExactValidSpeedsSaid : Prop := fnExactValidSpeedsRow.holds Try.pinned (OpenSpec.ofChange fnExactValidSpeedsSpec)

/-- ITS FALSE NEIGHBOUR: 'it returns false'. Refute it at one input. -/
def fnExactValidSpeedsWrong : ChangeSpec := { name := "fnExactValidSpeeds", fn := fun _ => fun
  | [d] => { results := [.lit (.bool false)], args := [d] }
  | _ => none }
def FnExactValidSpeedsWrongFalsely : Prop := fnExactValidSpeedsRow.holds Try.pinned (OpenSpec.ofChange fnExactValidSpeedsWrong)

/-- 'laws.FnExactTaskFaultName': WHATEVER THE INPUT: true; the input reads as it did. -/
def fnExactTaskFaultNameSpec : ChangeSpec := { name := "fnExactTaskFaultName", fn := fun _ => fun
  | [d] => { results := [.lit (.bool true)], args := [d] }
  | _ => none }
def fnExactTaskFaultNameRow : OpenClaim := { program := "ytoglmeiffidcbaa", sum := "5fd6343066586b933bdad49c2b3a8653c72c3656adcefdd5fa52d0814f80045c", func := "loop.example/g00932/laws.FnExactTaskFaultName", spec := "fnExactTaskFaultName", apart := false }
def FnExactTaskFaultNameSaid : Prop := fnExactTaskFaultNameRow.holds Try.pinned (OpenSpec.ofChange fnExactTaskFaultNameSpec)

/-- ITS FALSE NEIGHBOUR: 'it returns false'. Refute it at one input. -/
def fnExactTaskFaultNameWrong : ChangeSpec := { name := "fnExactTaskFaultName", fn := fun _ => fun
  | [d] => { results := [.lit (.bool false)], args := [d] }
  | _ => none }
def FnExactTaskFaultNameWrongFalsely : Prop := fnExactTaskFaultNameRow.holds Try.pinned (OpenSpec.ofChange fnExactTaskFaultNameWrong)

/-- 'laws.FnExactHoistTime': WHATEVER THE INPUT: true; the input reads as it did. -/
def fnExactHoistTimeSpec : ChangeSpec := { name := "fnExactHoistTime", fn := fun _ => fun
  | [d1, d2] => { results := [.lit (.bool true)], args := [d1, d2] }
  | _ => none }
def fnExactHoistTimeRow : OpenClaim := { program := "ytoglmeiffidcbaa", sum := "5fd6343066586b933bdad49c2b3a8653c72c3656adcefdd5fa52d0814f80045c", func := "loop.example/g00932/laws.FnExactHoistTime", spec := "fnExactHoistTime", apart := false }
def FnExactHoistTimeSaid : Prop := fnExactHoistTimeRow.holds Try.pinned (OpenSpec.ofChange fnExactHoistTimeSpec)

/-- ITS FALSE NEIGHBOUR: 'it returns false'. Refute it at one input. -/
def fnExactHoistTimeWrong : ChangeSpec := { name := "fnExactHoistTime", fn := fun _ => fun
  | [d1, d2] => { results := [.lit (.bool false)], args := [d1, d2] }
  | _ => none }
def FnExactHoistTimeWrongFalsely : Prop := fnExactHoistTimeRow.holds Try.pinned (OpenSpec.ofChange fnExactHoistTimeWrong)

/-- 'laws.FnExactTrolleyTime': WHATEVER THE INPUT: true; the input reads as it did. -/
def fnExactTrolleyTimeSpec : ChangeSpec := { name := "fnExactTrolleyTime", fn := fun _ => fun
  | [d1, d2, d3] => { results := [.lit (.bool true)], args := [d1, d2, d3] }
  | _ => none }
def fnExactTrolleyTimeRow : OpenClaim := { program := "ytoglmeiffidcbaa", sum := "5fd6343066586b933bdad49c2b3a8653c72c3656adcefdd5fa52d0814f80045c", func := "loop.example/g00932/laws.FnExactTrolleyTime", spec := "fnExactTrolleyTime", apart := false }
def FnExactTrolleyTimeSaid : Prop := fnExactTrolleyTimeRow.holds Try.pinned (OpenSpec.ofChange fnExactTrolleyTimeSpec)

/-- ITS FALSE NEIGHBOUR: 'it returns false'. Refute it at one input. -/
def fnExactTrolleyTimeWrong : ChangeSpec := { name := "fnExactTrolleyTime", fn := fun _ => fun
  | [d1, d2, d3] => { results := [.lit (.bool false)], args := [d1, d2, d3] }
  | _ => none }
def FnExactTrolleyTimeWrongFalsely : Prop := fnExactTrolleyTimeRow.holds Try.pinned (OpenSpec.ofChange fnExactTrolleyTimeWrong)

/-- 'laws.FnExactEndOf': WHATEVER THE INPUT: true; the input reads as it did. -/
def fnExactEndOfSpec : ChangeSpec := { name := "fnExactEndOf", fn := fun _ => fun
  | [d] => { results := [.lit (.bool true)], args := [d] }
  | _ => none }
def fnExactEndOfRow : OpenClaim := { program := "ytoglmeiffidcbaa", sum := "5fd6343066586b933bdad49c2b3a8653c72c3656adcefdd5fa52d0814f80045c", func := "loop.example/g00932/laws.FnExactEndOf", spec := "fnExactEndOf", apart := false }
def FnExactEndOfSaid : Prop := fnExactEndOfRow.holds Try.pinned (OpenSpec.ofChange fnExactEndOfSpec)

/-- ITS FALSE NEIGHBOUR: 'it returns false'. Refute it at one input. -/
def fnExactEndOfWrong : ChangeSpec := { name := "fnExactEndOf", fn := fun _ => fun
  | [d] => { results := [.lit (.bool false)], args := [d] }
  | _ => none }
def FnExactEndOfWrongFalsely : Prop := fnExactEndOfRow.holds Try.pinned (OpenSpec.ofChange fnExactEndOfWrong)

/-- 'laws.FnExactSlowerSpeeds': WHATEVER THE INPUT: true; the input reads as it did. -/
def fnExactSlowerSpeedsSpec : ChangeSpec := { name := "fnExactSlowerSpeeds", fn := fun _ => fun
  | [d1, d2] => { results := [.lit (.bool true)], args := [d1, d2] }
  | _ => none }
def fnExactSlowerSpeedsRow : OpenClaim := { program := "ytoglmeiffidcbaa", sum := "5fd6343066586b933bdad49c2b3a8653c72c3656adcefdd5fa52d0814f80045c", func := "loop.example/g00932/laws.FnExactSlowerSpeeds", spec := "fnExactSlowerSpeeds", apart := false }
def FnExactSlowerSpeedsSaid : Prop := fnExactSlowerSpeedsRow.holds Try.pinned (OpenSpec.ofChange fnExactSlowerSpeedsSpec)

/-- ITS FALSE NEIGHBOUR: 'it returns false'. Refute it at one input. -/
def fnExactSlowerSpeedsWrong : ChangeSpec := { name := "fnExactSlowerSpeeds", fn := fun _ => fun
  | [d1, d2] => { results := [.lit (.bool false)], args := [d1, d2] }
  | _ => none }
def FnExactSlowerSpeedsWrongFalsely : Prop := fnExactSlowerSpeedsRow.holds Try.pinned (OpenSpec.ofChange fnExactSlowerSpeedsWrong)

/-- 'laws.FnExactSlewTime': WHATEVER THE INPUT: true; the input reads as it did. -/
def fnExactSlewTimeSpec : ChangeSpec := { name := "fnExactSlewTime", fn := fun _ => fun
  | [d1, d2, d3] => { results := [.lit (.bool true)], args := [d1, d2, d3] }
  | _ => none }
def fnExactSlewTimeRow : OpenClaim := { program := "ytoglmeiffidcbaa", sum := "5fd6343066586b933bdad49c2b3a8653c72c3656adcefdd5fa52d0814f80045c", func := "loop.example/g00932/laws.FnExactSlewTime", spec := "fnExactSlewTime", apart := false }
def FnExactSlewTimeSaid : Prop := fnExactSlewTimeRow.holds Try.pinned (OpenSpec.ofChange fnExactSlewTimeSpec)

/-- ITS FALSE NEIGHBOUR: 'it returns false'. Refute it at one input. -/
def fnExactSlewTimeWrong : ChangeSpec := { name := "fnExactSlewTime", fn := fun _ => fun
  | [d1, d2, d3] => { results := [.lit (.bool false)], args := [d1, d2, d3] }
  | _ => none }
def FnExactSlewTimeWrongFalsely : Prop := fnExactSlewTimeRow.holds Try.pinned (OpenSpec.ofChange fnExactSlewTimeWrong)

/-- 'laws.FnExactSameTasks': WHATEVER THE INPUT: true; the input reads as it did. -/
def fnExactSameTasksSpec : ChangeSpec := { name := "fnExactSameTasks", fn := fun _ => fun
  | [d1, d2] => { results := [.lit (.bool true)], args := [d1, d2] }
  | _ => none }
def fnExactSameTasksRow : OpenClaim := { program := "ytoglmeiffidcbaa", sum := "5fd6343066586b933bdad49c2b3a8653c72c3656adcefdd5fa52d0814f80045c", func := "loop.example/g00932/laws.FnExactSameTasks", spec := "fnExactSameTasks", apart := false }
def FnExactSameTasksSaid : Prop := fnExactSameTasksRow.holds Try.pinned (OpenSpec.ofChange fnExactSameTasksSpec)

/-- ITS FALSE NEIGHBOUR: 'it returns false'. Refute it at one input. -/
def fnExactSameTasksWrong : ChangeSpec := { name := "fnExactSameTasks", fn := fun _ => fun
  | [d1, d2] => { results := [.lit (.bool false)], args := [d1, d2] }
  | _ => none }
def FnExactSameTasksWrongFalsely : Prop := fnExactSameTasksRow.holds Try.pinned (OpenSpec.ofChange fnExactSameTasksWrong)

/-- 'laws.FnExactSameLifts': WHATEVER THE INPUT: true; the input reads as it did. -/
def fnExactSameLiftsSpec : ChangeSpec := { name := "fnExactSameLifts", fn := fun _ => fun
  | [d1, d2] => { results := [.lit (.bool true)], args := [d1, d2] }
  | _ => none }
def fnExactSameLiftsRow : OpenClaim := { program := "ytoglmeiffidcbaa", sum := "5fd6343066586b933bdad49c2b3a8653c72c3656adcefdd5fa52d0814f80045c", func := "loop.example/g00932/laws.FnExactSameLifts", spec := "fnExactSameLifts", unfollowed := true, recurses := true, apart := false }
def FnExactSameLiftsSaid : Prop := fnExactSameLiftsRow.holds Try.pinned (OpenSpec.ofChange fnExactSameLiftsSpec)

/-- ITS FALSE NEIGHBOUR: 'it returns false'. Refute it at one input. -/
def fnExactSameLiftsWrong : ChangeSpec := { name := "fnExactSameLifts", fn := fun _ => fun
  | [d1, d2] => { results := [.lit (.bool false)], args := [d1, d2] }
  | _ => none }
def FnExactSameLiftsWrongFalsely : Prop := fnExactSameLiftsRow.holds Try.pinned (OpenSpec.ofChange fnExactSameLiftsWrong)

/- THE SECOND FORM. 'bulk': how many values and letters a reading holds, each counted each time it is reached (what is shared counts as often as it is met; a slice's spare places count too). A statement '..UptoSaid' is the law's where the arguments, and the package variables that the reading takes, are together of bulk at most 1048576: NARROWER than '..Said'. Prove '..Said' where nothing that the law and all that it calls make is longer than what came in: it says more and counts as full. Else prove '..UptoSaid'. A law counts once. -/
mutual
def uptoBulk {H : Type} : DataW H → Nat
  | .lit (.string bytes) => bytes.length + 1
  | .lit _ => 1
  | .nil => 1
  | .ptr d => uptoBulk d + 1
  | .slice elems spare => uptoBulkAll elems + uptoBulkAll spare + 1
  | .agg parts => uptoBulkAll parts + 1
  | .iface _ d => uptoBulk d + 1
  | .map entries => uptoBulkEntries entries + 1
  | .held _ => 1
def uptoBulkAll {H : Type} : List (DataW H) → Nat
  | [] => 0
  | d :: r => uptoBulk d + uptoBulkAll r
def uptoBulkEntries {H : Type} : List (Lit × DataW H) → Nat
  | [] => 0
  | x :: r => uptoBulkEntry x + uptoBulkEntries r
def uptoBulkEntry {H : Type} : Lit × DataW H → Nat
  | (.string bytes, d) => bytes.length + uptoBulk d + 1
  | (_, d) => uptoBulk d + 1
 end
def uptoSmall : (H : Type) → List (DataW H) → Bool := fun _ ds => decide (uptoBulkAll ds ≤ 1048576)
def OpenSpec.upto (s : _root_.Go.ChangeSpec) : _root_.Go.OpenSpec := { _root_.Go.OpenSpec.ofChange s with cond := some uptoSmall }

/-- 'laws.FnExactValidSpeeds', WHERE WHAT IT READS IS OF BULK AT MOST 1048576: true; the input reads as it did. -/
def fnExactValidSpeedsUptoRow : OpenClaim := { program := "ytoglmeiffidcbaa", sum := "5fd6343066586b933bdad49c2b3a8653c72c3656adcefdd5fa52d0814f80045c", func := "loop.example/g00932/laws.FnExactValidSpeeds", spec := "fnExactValidSpeeds", apart := false, narrowed := true }
def FnExactValidSpeedsUptoSaid : Prop := fnExactValidSpeedsUptoRow.holds Try.pinned (OpenSpec.upto fnExactValidSpeedsSpec)

/-- 'laws.FnExactTaskFaultName', WHERE WHAT IT READS IS OF BULK AT MOST 1048576: true; the input reads as it did. -/
def fnExactTaskFaultNameUptoRow : OpenClaim := { program := "ytoglmeiffidcbaa", sum := "5fd6343066586b933bdad49c2b3a8653c72c3656adcefdd5fa52d0814f80045c", func := "loop.example/g00932/laws.FnExactTaskFaultName", spec := "fnExactTaskFaultName", apart := false, narrowed := true }
def FnExactTaskFaultNameUptoSaid : Prop := fnExactTaskFaultNameUptoRow.holds Try.pinned (OpenSpec.upto fnExactTaskFaultNameSpec)

/-- 'laws.FnExactHoistTime', WHERE WHAT IT READS IS OF BULK AT MOST 1048576: true; the input reads as it did. -/
def fnExactHoistTimeUptoRow : OpenClaim := { program := "ytoglmeiffidcbaa", sum := "5fd6343066586b933bdad49c2b3a8653c72c3656adcefdd5fa52d0814f80045c", func := "loop.example/g00932/laws.FnExactHoistTime", spec := "fnExactHoistTime", apart := false, narrowed := true }
def FnExactHoistTimeUptoSaid : Prop := fnExactHoistTimeUptoRow.holds Try.pinned (OpenSpec.upto fnExactHoistTimeSpec)

/-- 'laws.FnExactTrolleyTime', WHERE WHAT IT READS IS OF BULK AT MOST 1048576: true; the input reads as it did. -/
def fnExactTrolleyTimeUptoRow : OpenClaim := { program := "ytoglmeiffidcbaa", sum := "5fd6343066586b933bdad49c2b3a8653c72c3656adcefdd5fa52d0814f80045c", func := "loop.example/g00932/laws.FnExactTrolleyTime", spec := "fnExactTrolleyTime", apart := false, narrowed := true }
def FnExactTrolleyTimeUptoSaid : Prop := fnExactTrolleyTimeUptoRow.holds Try.pinned (OpenSpec.upto fnExactTrolleyTimeSpec)

/-- 'laws.FnExactEndOf', WHERE WHAT IT READS IS OF BULK AT MOST 1048576: true; the input reads as it did. -/
def fnExactEndOfUptoRow : OpenClaim := { program := "ytoglmeiffidcbaa", sum := "5fd6343066586b933bdad49c2b3a8653c72c3656adcefdd5fa52d0814f80045c", func := "loop.example/g00932/laws.FnExactEndOf", spec := "fnExactEndOf", apart := false, narrowed := true }
def FnExactEndOfUptoSaid : Prop := fnExactEndOfUptoRow.holds Try.pinned (OpenSpec.upto fnExactEndOfSpec)

/-- 'laws.FnExactSlowerSpeeds', WHERE WHAT IT READS IS OF BULK AT MOST 1048576: true; the input reads as it did. -/
def fnExactSlowerSpeedsUptoRow : OpenClaim := { program := "ytoglmeiffidcbaa", sum := "5fd6343066586b933bdad49c2b3a8653c72c3656adcefdd5fa52d0814f80045c", func := "loop.example/g00932/laws.FnExactSlowerSpeeds", spec := "fnExactSlowerSpeeds", apart := false, narrowed := true }
def FnExactSlowerSpeedsUptoSaid : Prop := fnExactSlowerSpeedsUptoRow.holds Try.pinned (OpenSpec.upto fnExactSlowerSpeedsSpec)

/-- 'laws.FnExactSlewTime', WHERE WHAT IT READS IS OF BULK AT MOST 1048576: true; the input reads as it did. -/
def fnExactSlewTimeUptoRow : OpenClaim := { program := "ytoglmeiffidcbaa", sum := "5fd6343066586b933bdad49c2b3a8653c72c3656adcefdd5fa52d0814f80045c", func := "loop.example/g00932/laws.FnExactSlewTime", spec := "fnExactSlewTime", apart := false, narrowed := true }
def FnExactSlewTimeUptoSaid : Prop := fnExactSlewTimeUptoRow.holds Try.pinned (OpenSpec.upto fnExactSlewTimeSpec)

/-- 'laws.FnExactSameTasks', WHERE WHAT IT READS IS OF BULK AT MOST 1048576: true; the input reads as it did. -/
def fnExactSameTasksUptoRow : OpenClaim := { program := "ytoglmeiffidcbaa", sum := "5fd6343066586b933bdad49c2b3a8653c72c3656adcefdd5fa52d0814f80045c", func := "loop.example/g00932/laws.FnExactSameTasks", spec := "fnExactSameTasks", apart := false, narrowed := true }
def FnExactSameTasksUptoSaid : Prop := fnExactSameTasksUptoRow.holds Try.pinned (OpenSpec.upto fnExactSameTasksSpec)

/-- 'laws.FnExactSameLifts', WHERE WHAT IT READS IS OF BULK AT MOST 1048576: true; the input reads as it did. -/
def fnExactSameLiftsUptoRow : OpenClaim := { program := "ytoglmeiffidcbaa", sum := "5fd6343066586b933bdad49c2b3a8653c72c3656adcefdd5fa52d0814f80045c", func := "loop.example/g00932/laws.FnExactSameLifts", spec := "fnExactSameLifts", unfollowed := true, recurses := true, apart := false, narrowed := true }
def FnExactSameLiftsUptoSaid : Prop := fnExactSameLiftsUptoRow.holds Try.pinned (OpenSpec.upto fnExactSameLiftsSpec)

end Rows
end Go.Proofs.Ytoglmeiffidcbaa

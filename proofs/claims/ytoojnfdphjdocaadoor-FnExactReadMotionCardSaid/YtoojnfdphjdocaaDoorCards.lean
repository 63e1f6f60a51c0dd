/-
  DERIVED. GIVEN WITH THE SEED: THE CARDS: each row of YtoojnfdphjdocaaDoorRows.lean that lists a variable, with what it lists TIED to the program's text (the seventh form; the later family's looks); each row that meets fmt, with fmt's text TOLD by the authors' own Lean function (tested against real Go, not proved from fmt's source: count such statements apart). THE CARD IS WHAT COUNTS. Prove the row's statement (the work); the ties are given (YtoojnfdphjdocaaDoorTie.lean); close each card by the builder's one call (the guide's Derived/Test/ToyasCard.lean, 'card_holds'). Laid BY PROGRAM, IN A SANDBOX (cutbox-door.mjs). By AI agents, Wed Nov 11 2026. No macro, syntax, notation, axiom, sorry.
-/
import Derived.Test.YtoojnfdphjdocaaDoorRows
import GoSem.ClaimSeven
namespace Go.Proofs.YtoojnfdphjdocaaDoor
namespace Rows

/-- THE TIED CARD OF 'laws.FnExactMotionText'. -/
def fnExactMotionTextCard : Claim7 := { stood := { row := fnExactMotionTextRow, standIns := [], harness := (true, "fe43833899773bdc3ea7462bd39d51207268fc4ee34a1379840d5df8b0e34ac4"), looks := true }, kinds := [], alts := [], laidByText := true, laidKinds := [.data, .data, .data], laidTests := true, laidLooks := .later }
def FnExactMotionTextCardSaid : Prop := Claim7.holds Tryd.pinned (.plain (OpenSpec.ofChange fnExactMotionTextSpec)) fnExactMotionTextCard

/-- THE TIED CARD OF 'laws.FnExactReadMotion'. -/
def fnExactReadMotionCard : Claim7 := { stood := { row := fnExactReadMotionRow, standIns := [], harness := (true, "fe43833899773bdc3ea7462bd39d51207268fc4ee34a1379840d5df8b0e34ac4"), looks := true }, kinds := [], alts := [], laidByText := true, laidKinds := [.data, .data, .data, .sentinel, .sentinel], laidTests := true, laidLooks := .later }
def FnExactReadMotionCardSaid : Prop := Claim7.holds Tryd.pinned (.plain (OpenSpec.ofChange fnExactReadMotionSpec)) fnExactReadMotionCard

/-- THE SECOND FORM's CARD OF 'laws.FnExactMotionText'. -/
def fnExactMotionTextUptoCard : Claim7 := { stood := { row := fnExactMotionTextUptoRow, standIns := [], harness := (true, "fe43833899773bdc3ea7462bd39d51207268fc4ee34a1379840d5df8b0e34ac4"), looks := true }, kinds := [], alts := [], laidByText := true, laidKinds := [.data, .data, .data], laidTests := true, laidLooks := .later }
def FnExactMotionTextUptoCardSaid : Prop := Claim7.holds Tryd.pinned (.plain (OpenSpec.upto fnExactMotionTextSpec)) fnExactMotionTextUptoCard

/-- THE SECOND FORM's CARD OF 'laws.FnExactReadMotion'. -/
def fnExactReadMotionUptoCard : Claim7 := { stood := { row := fnExactReadMotionUptoRow, standIns := [], harness := (true, "fe43833899773bdc3ea7462bd39d51207268fc4ee34a1379840d5df8b0e34ac4"), looks := true }, kinds := [], alts := [], laidByText := true, laidKinds := [.data, .data, .data, .sentinel, .sentinel], laidTests := true, laidLooks := .later }
def FnExactReadMotionUptoCardSaid : Prop := Claim7.holds Tryd.pinned (.plain (OpenSpec.upto fnExactReadMotionSpec)) fnExactReadMotionUptoCard
end Rows
end Go.Proofs.YtoojnfdphjdocaaDoor

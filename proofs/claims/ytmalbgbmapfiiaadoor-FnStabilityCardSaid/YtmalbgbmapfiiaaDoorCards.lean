/-
  DERIVED. GIVEN WITH THE SEED: THE CARDS: each row of YtmalbgbmapfiiaaDoorRows.lean that lists a variable, with what it lists TIED to the program's text (the seventh form; the later family's looks); each row that meets fmt, with fmt's text TOLD by the authors' own Lean function (tested against real Go, not proved from fmt's source: count such statements apart). THE CARD IS WHAT COUNTS. Prove the row's statement (the work); the ties are given (YtmalbgbmapfiiaaDoorTie.lean); close each card by the builder's one call (the guide's Derived/Test/ToyasCard.lean, 'card_holds'). Laid BY PROGRAM, IN A SANDBOX (cutbox-door.mjs). By AI agents, Wed Nov 11 2026. No macro, syntax, notation, axiom, sorry.
-/
import Derived.Test.YtmalbgbmapfiiaaDoorRows
import GoSem.ClaimSeven
namespace Go.Proofs.YtmalbgbmapfiiaaDoor
namespace Rows

/-- THE TIED CARD OF 'laws.FnStability'. -/
def fnStabilityCard : Claim7 := { stood := { row := fnStabilityRow, standIns := [], harness := (true, "ce2093f2d9694d96128bad52bedc8eb9ff24d6791b49bf8aff687bcb4eae5c09"), looks := false }, kinds := [], alts := [], laidByText := true, laidKinds := [.data, .data, .data], laidTests := true, laidLooks := .later }
def FnStabilityCardSaid : Prop := Claim7.holds Tryd.pinned (.plain (OpenSpec.ofChange fnStabilitySpec)) fnStabilityCard

/-- THE TIED CARD OF 'laws.FnExactBaseText'. -/
def fnExactBaseTextCard : Claim7 := { stood := { row := fnExactBaseTextRow, standIns := [], harness := (true, "ce2093f2d9694d96128bad52bedc8eb9ff24d6791b49bf8aff687bcb4eae5c09"), looks := false }, kinds := [], alts := [], laidByText := true, laidKinds := [.data, .data, .data], laidTests := true, laidLooks := .later }
def FnExactBaseTextCardSaid : Prop := Claim7.holds Tryd.pinned (.plain (OpenSpec.ofChange fnExactBaseTextSpec)) fnExactBaseTextCard

/-- THE SECOND FORM's CARD OF 'laws.FnStability'. -/
def fnStabilityUptoCard : Claim7 := { stood := { row := fnStabilityUptoRow, standIns := [], harness := (true, "ce2093f2d9694d96128bad52bedc8eb9ff24d6791b49bf8aff687bcb4eae5c09"), looks := false }, kinds := [], alts := [], laidByText := true, laidKinds := [.data, .data, .data], laidTests := true, laidLooks := .later }
def FnStabilityUptoCardSaid : Prop := Claim7.holds Tryd.pinned (.plain (OpenSpec.upto fnStabilitySpec)) fnStabilityUptoCard

/-- THE SECOND FORM's CARD OF 'laws.FnExactBaseText'. -/
def fnExactBaseTextUptoCard : Claim7 := { stood := { row := fnExactBaseTextUptoRow, standIns := [], harness := (true, "ce2093f2d9694d96128bad52bedc8eb9ff24d6791b49bf8aff687bcb4eae5c09"), looks := false }, kinds := [], alts := [], laidByText := true, laidKinds := [.data, .data, .data], laidTests := true, laidLooks := .later }
def FnExactBaseTextUptoCardSaid : Prop := Claim7.holds Tryd.pinned (.plain (OpenSpec.upto fnExactBaseTextSpec)) fnExactBaseTextUptoCard
end Rows
end Go.Proofs.YtmalbgbmapfiiaaDoor

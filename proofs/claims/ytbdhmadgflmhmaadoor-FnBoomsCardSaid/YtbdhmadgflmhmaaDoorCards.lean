/-
  DERIVED. GIVEN WITH THE SEED: THE CARDS: each row of YtbdhmadgflmhmaaDoorRows.lean that lists a variable, with what it lists TIED to the program's text (the seventh form; the later family's looks); each row that meets fmt, with fmt's text TOLD by the authors' own Lean function (tested against real Go, not proved from fmt's source: count such statements apart). THE CARD IS WHAT COUNTS. Prove the row's statement (the work); the ties are given (YtbdhmadgflmhmaaDoorTie.lean); close each card by the builder's one call (the guide's Derived/Test/ToyasCard.lean, 'card_holds'). Laid BY PROGRAM, IN A SANDBOX (cutbox-door.mjs). By AI agents, Wed Nov 11 2026. No macro, syntax, notation, axiom, sorry.
-/
import Derived.Test.YtbdhmadgflmhmaaDoorRows
import GoSem.ClaimSeven
namespace Go.Proofs.YtbdhmadgflmhmaaDoor
namespace Rows

/-- THE TIED CARD OF 'laws.FnExactBoomOf'. -/
def fnExactBoomOfCard : Claim7 := { stood := { row := fnExactBoomOfRow, standIns := [], harness := (true, "38a7ecd87eb451f1c829af99fccfbecd7a4000fd326e906e1c84ca347119aca6"), looks := false }, kinds := [], alts := [], laidByText := true, laidKinds := [.data], laidTests := true, laidLooks := .later }
def FnExactBoomOfCardSaid : Prop := Claim7.holds Tryd.pinned (.plain (OpenSpec.ofChange fnExactBoomOfSpec)) fnExactBoomOfCard

/-- THE TIED CARD OF 'laws.FnBooms'. -/
def fnBoomsCard : Claim7 := { stood := { row := fnBoomsRow, standIns := [], harness := (true, "38a7ecd87eb451f1c829af99fccfbecd7a4000fd326e906e1c84ca347119aca6"), looks := false }, kinds := [], alts := [], laidByText := true, laidKinds := [.data], laidTests := true, laidLooks := .later }
def FnBoomsCardSaid : Prop := Claim7.holds Tryd.pinned (.plain (OpenSpec.ofChange fnBoomsSpec)) fnBoomsCard

/-- THE SECOND FORM's CARD OF 'laws.FnExactBoomOf'. -/
def fnExactBoomOfUptoCard : Claim7 := { stood := { row := fnExactBoomOfUptoRow, standIns := [], harness := (true, "38a7ecd87eb451f1c829af99fccfbecd7a4000fd326e906e1c84ca347119aca6"), looks := false }, kinds := [], alts := [], laidByText := true, laidKinds := [.data], laidTests := true, laidLooks := .later }
def FnExactBoomOfUptoCardSaid : Prop := Claim7.holds Tryd.pinned (.plain (OpenSpec.upto fnExactBoomOfSpec)) fnExactBoomOfUptoCard

/-- THE SECOND FORM's CARD OF 'laws.FnBooms'. -/
def fnBoomsUptoCard : Claim7 := { stood := { row := fnBoomsUptoRow, standIns := [], harness := (true, "38a7ecd87eb451f1c829af99fccfbecd7a4000fd326e906e1c84ca347119aca6"), looks := false }, kinds := [], alts := [], laidByText := true, laidKinds := [.data], laidTests := true, laidLooks := .later }
def FnBoomsUptoCardSaid : Prop := Claim7.holds Tryd.pinned (.plain (OpenSpec.upto fnBoomsSpec)) fnBoomsUptoCard
end Rows
end Go.Proofs.YtbdhmadgflmhmaaDoor

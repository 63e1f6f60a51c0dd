/-
  DERIVED. GIVEN WITH THE SEED: THE CARDS: each row of YtnmldhkcbekecaaDoorRows.lean that lists a variable, with what it lists TIED to the program's text (the seventh form; the later family's looks); each row that meets fmt, with fmt's text TOLD by the authors' own Lean function (tested against real Go, not proved from fmt's source: count such statements apart). THE CARD IS WHAT COUNTS. Prove the row's statement (the work); the ties are given (YtnmldhkcbekecaaDoorTie.lean); close each card by the builder's one call (the guide's Derived/Test/ToyasCard.lean, 'card_holds'). Laid BY PROGRAM, IN A SANDBOX (cutbox-door.mjs). By AI agents, Wed Nov 11 2026. No macro, syntax, notation, axiom, sorry.
-/
import Derived.Test.YtnmldhkcbekecaaDoorRows
import GoSem.ClaimSeven
namespace Go.Proofs.YtnmldhkcbekecaaDoor
namespace Rows

/-- THE TIED CARD OF 'laws.FnExactSlingText'. -/
def fnExactSlingTextCard : Claim7 := { stood := { row := fnExactSlingTextRow, standIns := [], harness := (true, "ce2b237a4546ef24894e93456dfc36ca488d7804f9d1605a1da01cf44b3de28a"), looks := true }, kinds := [], alts := [], laidByText := true, laidKinds := [.data, .data, .data], laidTests := true, laidLooks := .later }
def FnExactSlingTextCardSaid : Prop := Claim7.holds Tryd.pinned (.plain (OpenSpec.ofChange fnExactSlingTextSpec)) fnExactSlingTextCard

/-- THE TIED CARD OF 'laws.FnExactReadSling'. -/
def fnExactReadSlingCard : Claim7 := { stood := { row := fnExactReadSlingRow, standIns := [], harness := (true, "ce2b237a4546ef24894e93456dfc36ca488d7804f9d1605a1da01cf44b3de28a"), looks := true }, kinds := [], alts := [], laidByText := true, laidKinds := [.data, .data, .data, .sentinel, .sentinel], laidTests := true, laidLooks := .later }
def FnExactReadSlingCardSaid : Prop := Claim7.holds Tryd.pinned (.plain (OpenSpec.ofChange fnExactReadSlingSpec)) fnExactReadSlingCard

/-- THE SECOND FORM's CARD OF 'laws.FnExactSlingText'. -/
def fnExactSlingTextUptoCard : Claim7 := { stood := { row := fnExactSlingTextUptoRow, standIns := [], harness := (true, "ce2b237a4546ef24894e93456dfc36ca488d7804f9d1605a1da01cf44b3de28a"), looks := true }, kinds := [], alts := [], laidByText := true, laidKinds := [.data, .data, .data], laidTests := true, laidLooks := .later }
def FnExactSlingTextUptoCardSaid : Prop := Claim7.holds Tryd.pinned (.plain (OpenSpec.upto fnExactSlingTextSpec)) fnExactSlingTextUptoCard

/-- THE SECOND FORM's CARD OF 'laws.FnExactReadSling'. -/
def fnExactReadSlingUptoCard : Claim7 := { stood := { row := fnExactReadSlingUptoRow, standIns := [], harness := (true, "ce2b237a4546ef24894e93456dfc36ca488d7804f9d1605a1da01cf44b3de28a"), looks := true }, kinds := [], alts := [], laidByText := true, laidKinds := [.data, .data, .data, .sentinel, .sentinel], laidTests := true, laidLooks := .later }
def FnExactReadSlingUptoCardSaid : Prop := Claim7.holds Tryd.pinned (.plain (OpenSpec.upto fnExactReadSlingSpec)) fnExactReadSlingUptoCard
end Rows
end Go.Proofs.YtnmldhkcbekecaaDoor

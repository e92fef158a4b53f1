/-
  DERIVED. GIVEN WITH THE SEED: THE CARDS: each row of YtielligodgabiaaGreatDoorRows.lean that lists a variable, with what it lists TIED to the program's text (the seventh form; the later family's looks); each row that meets fmt, with fmt's text TOLD by the authors' own Lean function (tested against real Go, not proved from fmt's source: count such statements apart). THE CARD IS WHAT COUNTS. Prove the row's statement (the work); the ties are given (YtielligodgabiaaGreatDoorTie.lean); close each card by the builder's one call (the guide's Derived/Test/ToyasCard.lean, 'card_holds'). Laid BY PROGRAM, IN A SANDBOX (cutbox-door.mjs). By AI agents, Wed Nov 11 2026. No macro, syntax, notation, axiom, sorry.
-/
import Derived.Test.YtielligodgabiaaGreatDoorRows
import GoSem.ClaimSeven
namespace Go.Proofs.YtielligodgabiaaGreatDoor
namespace Rows

/-- THE TIED CARD OF 'laws.FnExactHandOver'. -/
def fnExactHandOverCard : Claim7 := { stood := { row := fnExactHandOverRow, standIns := [], harness := (true, "69ce7d7c327cccee89891a6d920c16ec53749cabd2e544a44457b4be23e1b9fb"), looks := false }, kinds := [], alts := [], laidByText := true, laidKinds := [.data], laidTests := true, laidLooks := .later }
def FnExactHandOverCardSaid : Prop := Claim7.holds Tryz.pinned (.plain (OpenSpec.ofChange fnExactHandOverSpec)) fnExactHandOverCard

/-- THE SECOND FORM's CARD OF 'laws.FnExactHandOver'. -/
def fnExactHandOverUptoCard : Claim7 := { stood := { row := fnExactHandOverUptoRow, standIns := [], harness := (true, "69ce7d7c327cccee89891a6d920c16ec53749cabd2e544a44457b4be23e1b9fb"), looks := false }, kinds := [], alts := [], laidByText := true, laidKinds := [.data], laidTests := true, laidLooks := .later }
def FnExactHandOverUptoCardSaid : Prop := Claim7.holds Tryz.pinned (.plain (OpenSpec.upto fnExactHandOverSpec)) fnExactHandOverUptoCard
end Rows
end Go.Proofs.YtielligodgabiaaGreatDoor

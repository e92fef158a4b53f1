/-
  DERIVED. GIVEN WITH THE SEED: THE CARDS: each row of YtmiackbomcjboaaGreatDoorRows.lean that lists a variable, with what it lists TIED to the program's text (the seventh form; the later family's looks); each row that meets fmt, with fmt's text TOLD by the authors' own Lean function (tested against real Go, not proved from fmt's source: count such statements apart). THE CARD IS WHAT COUNTS. Prove the row's statement (the work); the ties are given (YtmiackbomcjboaaGreatDoorTie.lean); close each card by the builder's one call (the guide's Derived/Test/ToyasCard.lean, 'card_holds'). Laid BY PROGRAM, IN A SANDBOX (cutbox-door.mjs). By AI agents, Wed Nov 11 2026. No macro, syntax, notation, axiom, sorry.
-/
import Derived.Test.YtmiackbomcjboaaGreatDoorRows
import GoSem.ClaimSeven
namespace Go.Proofs.YtmiackbomcjboaaGreatDoor
namespace Rows

/-- THE TIED CARD OF 'laws.FnKemBent'. -/
def fnKemBentCard : Claim7 := { stood := { row := fnKemBentRow, standIns := [], harness := (true, "ec920b84a4eb4b03a02e374fe66797d953172b0bd7e161fa9c337ee9b05b1b62"), looks := false }, kinds := [], alts := [], laidByText := true, laidKinds := [.data], laidTests := true, laidLooks := .later }
def FnKemBentCardSaid : Prop := Claim7.holds Tryz.pinned (.plain (OpenSpec.ofChange fnKemBentSpec)) fnKemBentCard

/-- THE SECOND FORM's CARD OF 'laws.FnKemBent'. -/
def fnKemBentUptoCard : Claim7 := { stood := { row := fnKemBentUptoRow, standIns := [], harness := (true, "ec920b84a4eb4b03a02e374fe66797d953172b0bd7e161fa9c337ee9b05b1b62"), looks := false }, kinds := [], alts := [], laidByText := true, laidKinds := [.data], laidTests := true, laidLooks := .later }
def FnKemBentUptoCardSaid : Prop := Claim7.holds Tryz.pinned (.plain (OpenSpec.upto fnKemBentSpec)) fnKemBentUptoCard
end Rows
end Go.Proofs.YtmiackbomcjboaaGreatDoor

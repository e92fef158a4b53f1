/-
  DERIVED. GIVEN WITH THE SEED: THE CARDS: each row of YtmdlpmddljbkeaaGreatDoorRows.lean that lists a variable, with what it lists TIED to the program's text (the seventh form; the later family's looks); each row that meets fmt, with fmt's text TOLD by the authors' own Lean function (tested against real Go, not proved from fmt's source: count such statements apart). THE CARD IS WHAT COUNTS. Prove the row's statement (the work); the ties are given (YtmdlpmddljbkeaaGreatDoorTie.lean); close each card by the builder's one call (the guide's Derived/Test/ToyasCard.lean, 'card_holds'). Laid BY PROGRAM, IN A SANDBOX (cutbox-door.mjs). By AI agents, Wed Nov 11 2026. No macro, syntax, notation, axiom, sorry.
-/
import Derived.Test.YtmdlpmddljbkeaaGreatDoorRows
import GoSem.ClaimSeven
namespace Go.Proofs.YtmdlpmddljbkeaaGreatDoor
namespace Rows

/-- THE TIED CARD OF 'laws.FnKem'. -/
def fnKemCard : Claim7 := { stood := { row := fnKemRow, standIns := [], harness := (true, "3ecc359403f68be68ebb0768dcb9de5d7c24f569f5c1bc80e58bbde3c2f15474"), looks := false }, kinds := [], alts := [], laidByText := true, laidKinds := [.data], laidTests := true, laidLooks := .later }
def FnKemCardSaid : Prop := Claim7.holds Tryz.pinned (.plain (OpenSpec.ofChange fnKemSpec)) fnKemCard

/-- THE SECOND FORM's CARD OF 'laws.FnKem'. -/
def fnKemUptoCard : Claim7 := { stood := { row := fnKemUptoRow, standIns := [], harness := (true, "3ecc359403f68be68ebb0768dcb9de5d7c24f569f5c1bc80e58bbde3c2f15474"), looks := false }, kinds := [], alts := [], laidByText := true, laidKinds := [.data], laidTests := true, laidLooks := .later }
def FnKemUptoCardSaid : Prop := Claim7.holds Tryz.pinned (.plain (OpenSpec.upto fnKemSpec)) fnKemUptoCard
end Rows
end Go.Proofs.YtmdlpmddljbkeaaGreatDoor

/-
  DERIVED. GIVEN WITH THE SEED: THE CARDS: each row of YtooanbpkknlmjaaGreatDoorRows.lean that lists a variable, with what it lists TIED to the program's text (the seventh form; the later family's looks); each row that meets fmt, with fmt's text TOLD by the authors' own Lean function (tested against real Go, not proved from fmt's source: count such statements apart). THE CARD IS WHAT COUNTS. Prove the row's statement (the work); the ties are given (YtooanbpkknlmjaaGreatDoorTie.lean); close each card by the builder's one call (the guide's Derived/Test/ToyasCard.lean, 'card_holds'). Laid BY PROGRAM, IN A SANDBOX (cutbox-door.mjs). By AI agents, Wed Nov 11 2026. No macro, syntax, notation, axiom, sorry.
-/
import Derived.Test.YtooanbpkknlmjaaGreatDoorRows
import GoSem.ClaimSeven
namespace Go.Proofs.YtooanbpkknlmjaaGreatDoor
namespace Rows

/-- THE TIED CARD OF 'laws.FnExactTakeOver'. -/
def fnExactTakeOverCard : Claim7 := { stood := { row := fnExactTakeOverRow, standIns := [], harness := (true, "73dbe79846e594ebd6db606bf7f6a8d32996e02cacc83bfdaddbb8298d46bdf8"), looks := false }, kinds := [], alts := [], laidByText := true, laidKinds := [.data], laidTests := true, laidLooks := .later }
def FnExactTakeOverCardSaid : Prop := Claim7.holds Tryz.pinned (.plain (OpenSpec.ofChange fnExactTakeOverSpec)) fnExactTakeOverCard

/-- THE SECOND FORM's CARD OF 'laws.FnExactTakeOver'. -/
def fnExactTakeOverUptoCard : Claim7 := { stood := { row := fnExactTakeOverUptoRow, standIns := [], harness := (true, "73dbe79846e594ebd6db606bf7f6a8d32996e02cacc83bfdaddbb8298d46bdf8"), looks := false }, kinds := [], alts := [], laidByText := true, laidKinds := [.data], laidTests := true, laidLooks := .later }
def FnExactTakeOverUptoCardSaid : Prop := Claim7.holds Tryz.pinned (.plain (OpenSpec.upto fnExactTakeOverSpec)) fnExactTakeOverUptoCard
end Rows
end Go.Proofs.YtooanbpkknlmjaaGreatDoor

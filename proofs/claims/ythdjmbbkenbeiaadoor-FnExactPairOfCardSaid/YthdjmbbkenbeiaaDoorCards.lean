/-
  DERIVED. GIVEN WITH THE SEED: THE CARDS: each row of YthdjmbbkenbeiaaDoorRows.lean that lists a variable, with what it lists TIED to the program's text (the seventh form; the later family's looks); each row that meets fmt, with fmt's text TOLD by the authors' own Lean function (tested against real Go, not proved from fmt's source: count such statements apart). THE CARD IS WHAT COUNTS. Prove the row's statement (the work); the ties are given (YthdjmbbkenbeiaaDoorTie.lean); close each card by the builder's one call (the guide's Derived/Test/ToyasCard.lean, 'card_holds'). Laid BY PROGRAM, IN A SANDBOX (cutbox-door.mjs). By AI agents, Wed Nov 11 2026. No macro, syntax, notation, axiom, sorry.
-/
import Derived.Test.YthdjmbbkenbeiaaDoorRows
import GoSem.ClaimSeven
namespace Go.Proofs.YthdjmbbkenbeiaaDoor
namespace Rows

/-- THE TIED CARD OF 'laws.FnExactPairOf'. -/
def fnExactPairOfCard : Claim7 := { stood := { row := fnExactPairOfRow, standIns := [], harness := (true, "f8d5b33a182d44ab98e66d5a04ae48bf63ad7ce788c728827e5c814cb7d8c064"), looks := false }, kinds := [], alts := [], laidByText := true, laidKinds := [.data], laidTests := true, laidLooks := .later }
def FnExactPairOfCardSaid : Prop := Claim7.holds Tryd.pinned (.plain (OpenSpec.ofChange fnExactPairOfSpec)) fnExactPairOfCard

/-- THE SECOND FORM's CARD OF 'laws.FnExactPairOf'. -/
def fnExactPairOfUptoCard : Claim7 := { stood := { row := fnExactPairOfUptoRow, standIns := [], harness := (true, "f8d5b33a182d44ab98e66d5a04ae48bf63ad7ce788c728827e5c814cb7d8c064"), looks := false }, kinds := [], alts := [], laidByText := true, laidKinds := [.data], laidTests := true, laidLooks := .later }
def FnExactPairOfUptoCardSaid : Prop := Claim7.holds Tryd.pinned (.plain (OpenSpec.upto fnExactPairOfSpec)) fnExactPairOfUptoCard
end Rows
end Go.Proofs.YthdjmbbkenbeiaaDoor

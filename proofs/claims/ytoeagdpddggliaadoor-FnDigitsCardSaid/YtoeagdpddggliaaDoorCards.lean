/-
  DERIVED. GIVEN WITH THE SEED: THE CARDS: each row of YtoeagdpddggliaaDoorRows.lean that lists a variable, with what it lists TIED to the program's text (the seventh form; the later family's looks); each row that meets fmt, with fmt's text TOLD by the authors' own Lean function (tested against real Go, not proved from fmt's source: count such statements apart). THE CARD IS WHAT COUNTS. Prove the row's statement (the work); the ties are given (YtoeagdpddggliaaDoorTie.lean); close each card by the builder's one call (the guide's Derived/Test/ToyasCard.lean, 'card_holds'). Laid BY PROGRAM, IN A SANDBOX (cutbox-door.mjs). By AI agents, Wed Nov 11 2026. No macro, syntax, notation, axiom, sorry.
-/
import Derived.Test.YtoeagdpddggliaaDoorRows
import GoSem.ClaimSeven
namespace Go.Proofs.YtoeagdpddggliaaDoor
namespace Rows

/-- THE TIED CARD OF 'laws.FnExactMask'. -/
def fnExactMaskCard : Claim7 := { stood := { row := fnExactMaskRow, standIns := [], harness := (true, "8976673b2245e947ea8bd49f49d17d849eaaae0c3e8c4f68f86b61b4b900ced0"), looks := false }, kinds := [], alts := [], laidByText := true, laidKinds := [.data], laidTests := true, laidLooks := .later }
def FnExactMaskCardSaid : Prop := Claim7.holds Tryd.pinned (.plain (OpenSpec.ofChange fnExactMaskSpec)) fnExactMaskCard

/-- THE TIED CARD OF 'laws.FnChains'. -/
def fnChainsCard : Claim7 := { stood := { row := fnChainsRow, standIns := [], harness := (true, "8976673b2245e947ea8bd49f49d17d849eaaae0c3e8c4f68f86b61b4b900ced0"), looks := false }, kinds := [], alts := [], laidByText := true, laidKinds := [.data], laidTests := true, laidLooks := .later }
def FnChainsCardSaid : Prop := Claim7.holds Tryd.pinned (.plain (OpenSpec.ofChange fnChainsSpec)) fnChainsCard

/-- THE TIED CARD OF 'laws.FnDigits'. -/
def fnDigitsCard : Claim7 := { stood := { row := fnDigitsRow, standIns := [], harness := (true, "8976673b2245e947ea8bd49f49d17d849eaaae0c3e8c4f68f86b61b4b900ced0"), looks := false }, kinds := [], alts := [], laidByText := true, laidKinds := [.data], laidTests := true, laidLooks := .later }
def FnDigitsCardSaid : Prop := Claim7.holds Tryd.pinned (.plain (OpenSpec.ofChange fnDigitsSpec)) fnDigitsCard

/-- THE TIED CARD OF 'laws.FnExactOnceFound'. -/
def fnExactOnceFoundCard : Claim7 := { stood := { row := fnExactOnceFoundRow, standIns := [], harness := (true, "8976673b2245e947ea8bd49f49d17d849eaaae0c3e8c4f68f86b61b4b900ced0"), looks := false }, kinds := [], alts := [], laidByText := true, laidKinds := [.data], laidTests := true, laidLooks := .later }
def FnExactOnceFoundCardSaid : Prop := Claim7.holds Tryd.pinned (.plain (OpenSpec.ofChange fnExactOnceFoundSpec)) fnExactOnceFoundCard

/-- THE TIED CARD OF 'laws.FnExactPublicOf'. -/
def fnExactPublicOfCard : Claim7 := { stood := { row := fnExactPublicOfRow, standIns := [], harness := (true, "8976673b2245e947ea8bd49f49d17d849eaaae0c3e8c4f68f86b61b4b900ced0"), looks := false }, kinds := [], alts := [], laidByText := true, laidKinds := [.data], laidTests := true, laidLooks := .later }
def FnExactPublicOfCardSaid : Prop := Claim7.holds Tryd.pinned (.plain (OpenSpec.ofChange fnExactPublicOfSpec)) fnExactPublicOfCard

/-- THE TIED CARD OF 'laws.FnExactHyperPublic'. -/
def fnExactHyperPublicCard : Claim7 := { stood := { row := fnExactHyperPublicRow, standIns := [], harness := (true, "8976673b2245e947ea8bd49f49d17d849eaaae0c3e8c4f68f86b61b4b900ced0"), looks := false }, kinds := [], alts := [], laidByText := true, laidKinds := [.data], laidTests := true, laidLooks := .later }
def FnExactHyperPublicCardSaid : Prop := Claim7.holds Tryd.pinned (.plain (OpenSpec.ofChange fnExactHyperPublicSpec)) fnExactHyperPublicCard

/-- THE TIED CARD OF 'laws.FnExactPathOf'. -/
def fnExactPathOfCard : Claim7 := { stood := { row := fnExactPathOfRow, standIns := [], harness := (true, "8976673b2245e947ea8bd49f49d17d849eaaae0c3e8c4f68f86b61b4b900ced0"), looks := false }, kinds := [], alts := [], laidByText := true, laidKinds := [.data], laidTests := true, laidLooks := .later }
def FnExactPathOfCardSaid : Prop := Claim7.holds Tryd.pinned (.plain (OpenSpec.ofChange fnExactPathOfSpec)) fnExactPathOfCard

/-- THE TIED CARD OF 'laws.FnExactOnceSign'. -/
def fnExactOnceSignCard : Claim7 := { stood := { row := fnExactOnceSignRow, standIns := [], harness := (true, "8976673b2245e947ea8bd49f49d17d849eaaae0c3e8c4f68f86b61b4b900ced0"), looks := false }, kinds := [], alts := [], laidByText := true, laidKinds := [.data], laidTests := true, laidLooks := .later }
def FnExactOnceSignCardSaid : Prop := Claim7.holds Tryd.pinned (.plain (OpenSpec.ofChange fnExactOnceSignSpec)) fnExactOnceSignCard

/-- THE TIED CARD OF 'laws.FnPaths'. -/
def fnPathsCard : Claim7 := { stood := { row := fnPathsRow, standIns := [], harness := (true, "8976673b2245e947ea8bd49f49d17d849eaaae0c3e8c4f68f86b61b4b900ced0"), looks := false }, kinds := [], alts := [], laidByText := true, laidKinds := [.data], laidTests := true, laidLooks := .later }
def FnPathsCardSaid : Prop := Claim7.holds Tryd.pinned (.plain (OpenSpec.ofChange fnPathsSpec)) fnPathsCard

/-- THE SECOND FORM's CARD OF 'laws.FnExactMask'. -/
def fnExactMaskUptoCard : Claim7 := { stood := { row := fnExactMaskUptoRow, standIns := [], harness := (true, "8976673b2245e947ea8bd49f49d17d849eaaae0c3e8c4f68f86b61b4b900ced0"), looks := false }, kinds := [], alts := [], laidByText := true, laidKinds := [.data], laidTests := true, laidLooks := .later }
def FnExactMaskUptoCardSaid : Prop := Claim7.holds Tryd.pinned (.plain (OpenSpec.upto fnExactMaskSpec)) fnExactMaskUptoCard

/-- THE SECOND FORM's CARD OF 'laws.FnChains'. -/
def fnChainsUptoCard : Claim7 := { stood := { row := fnChainsUptoRow, standIns := [], harness := (true, "8976673b2245e947ea8bd49f49d17d849eaaae0c3e8c4f68f86b61b4b900ced0"), looks := false }, kinds := [], alts := [], laidByText := true, laidKinds := [.data], laidTests := true, laidLooks := .later }
def FnChainsUptoCardSaid : Prop := Claim7.holds Tryd.pinned (.plain (OpenSpec.upto fnChainsSpec)) fnChainsUptoCard

/-- THE SECOND FORM's CARD OF 'laws.FnDigits'. -/
def fnDigitsUptoCard : Claim7 := { stood := { row := fnDigitsUptoRow, standIns := [], harness := (true, "8976673b2245e947ea8bd49f49d17d849eaaae0c3e8c4f68f86b61b4b900ced0"), looks := false }, kinds := [], alts := [], laidByText := true, laidKinds := [.data], laidTests := true, laidLooks := .later }
def FnDigitsUptoCardSaid : Prop := Claim7.holds Tryd.pinned (.plain (OpenSpec.upto fnDigitsSpec)) fnDigitsUptoCard

/-- THE SECOND FORM's CARD OF 'laws.FnExactOnceFound'. -/
def fnExactOnceFoundUptoCard : Claim7 := { stood := { row := fnExactOnceFoundUptoRow, standIns := [], harness := (true, "8976673b2245e947ea8bd49f49d17d849eaaae0c3e8c4f68f86b61b4b900ced0"), looks := false }, kinds := [], alts := [], laidByText := true, laidKinds := [.data], laidTests := true, laidLooks := .later }
def FnExactOnceFoundUptoCardSaid : Prop := Claim7.holds Tryd.pinned (.plain (OpenSpec.upto fnExactOnceFoundSpec)) fnExactOnceFoundUptoCard

/-- THE SECOND FORM's CARD OF 'laws.FnExactPublicOf'. -/
def fnExactPublicOfUptoCard : Claim7 := { stood := { row := fnExactPublicOfUptoRow, standIns := [], harness := (true, "8976673b2245e947ea8bd49f49d17d849eaaae0c3e8c4f68f86b61b4b900ced0"), looks := false }, kinds := [], alts := [], laidByText := true, laidKinds := [.data], laidTests := true, laidLooks := .later }
def FnExactPublicOfUptoCardSaid : Prop := Claim7.holds Tryd.pinned (.plain (OpenSpec.upto fnExactPublicOfSpec)) fnExactPublicOfUptoCard

/-- THE SECOND FORM's CARD OF 'laws.FnExactHyperPublic'. -/
def fnExactHyperPublicUptoCard : Claim7 := { stood := { row := fnExactHyperPublicUptoRow, standIns := [], harness := (true, "8976673b2245e947ea8bd49f49d17d849eaaae0c3e8c4f68f86b61b4b900ced0"), looks := false }, kinds := [], alts := [], laidByText := true, laidKinds := [.data], laidTests := true, laidLooks := .later }
def FnExactHyperPublicUptoCardSaid : Prop := Claim7.holds Tryd.pinned (.plain (OpenSpec.upto fnExactHyperPublicSpec)) fnExactHyperPublicUptoCard

/-- THE SECOND FORM's CARD OF 'laws.FnExactPathOf'. -/
def fnExactPathOfUptoCard : Claim7 := { stood := { row := fnExactPathOfUptoRow, standIns := [], harness := (true, "8976673b2245e947ea8bd49f49d17d849eaaae0c3e8c4f68f86b61b4b900ced0"), looks := false }, kinds := [], alts := [], laidByText := true, laidKinds := [.data], laidTests := true, laidLooks := .later }
def FnExactPathOfUptoCardSaid : Prop := Claim7.holds Tryd.pinned (.plain (OpenSpec.upto fnExactPathOfSpec)) fnExactPathOfUptoCard

/-- THE SECOND FORM's CARD OF 'laws.FnExactOnceSign'. -/
def fnExactOnceSignUptoCard : Claim7 := { stood := { row := fnExactOnceSignUptoRow, standIns := [], harness := (true, "8976673b2245e947ea8bd49f49d17d849eaaae0c3e8c4f68f86b61b4b900ced0"), looks := false }, kinds := [], alts := [], laidByText := true, laidKinds := [.data], laidTests := true, laidLooks := .later }
def FnExactOnceSignUptoCardSaid : Prop := Claim7.holds Tryd.pinned (.plain (OpenSpec.upto fnExactOnceSignSpec)) fnExactOnceSignUptoCard

/-- THE SECOND FORM's CARD OF 'laws.FnPaths'. -/
def fnPathsUptoCard : Claim7 := { stood := { row := fnPathsUptoRow, standIns := [], harness := (true, "8976673b2245e947ea8bd49f49d17d849eaaae0c3e8c4f68f86b61b4b900ced0"), looks := false }, kinds := [], alts := [], laidByText := true, laidKinds := [.data], laidTests := true, laidLooks := .later }
def FnPathsUptoCardSaid : Prop := Claim7.holds Tryd.pinned (.plain (OpenSpec.upto fnPathsSpec)) fnPathsUptoCard
end Rows
end Go.Proofs.YtoeagdpddggliaaDoor

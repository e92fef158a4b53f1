/-
  DERIVED. GIVEN WITH THE SEED: THE CARDS: each row of YtjcmafoepabpkaaDoorRows.lean that lists a variable, with what it lists TIED to the program's text (the seventh form; the later family's looks); each row that meets fmt, with fmt's text TOLD by the authors' own Lean function (tested against real Go, not proved from fmt's source: count such statements apart). THE CARD IS WHAT COUNTS. Prove the row's statement (the work); the ties are given (YtjcmafoepabpkaaDoorTie.lean); close each card by the builder's one call (the guide's Derived/Test/ToyasCard.lean, 'card_holds'). Laid BY PROGRAM, IN A SANDBOX (cutbox-door.mjs). By AI agents, Wed Nov 11 2026. No macro, syntax, notation, axiom, sorry.
-/
import Derived.Test.YtjcmafoepabpkaaDoorRows
import GoSem.ClaimSeven
namespace Go.Proofs.YtjcmafoepabpkaaDoor
namespace Rows

/-- THE TIED CARD OF 'laws.FnExactMask'. -/
def fnExactMaskCard : Claim7 := { stood := { row := fnExactMaskRow, standIns := [], harness := (true, "9b9a7b10c814994ed8fcdd8024231610a810bec324bf25d5a6191953f2e9c623"), looks := false }, kinds := [], alts := [], laidByText := true, laidKinds := [.data], laidTests := true, laidLooks := .later }
def FnExactMaskCardSaid : Prop := Claim7.holds Tryd.pinned (.plain (OpenSpec.ofChange fnExactMaskSpec)) fnExactMaskCard

/-- THE TIED CARD OF 'laws.FnExactOnceFound'. -/
def fnExactOnceFoundCard : Claim7 := { stood := { row := fnExactOnceFoundRow, standIns := [], harness := (true, "9b9a7b10c814994ed8fcdd8024231610a810bec324bf25d5a6191953f2e9c623"), looks := false }, kinds := [], alts := [], laidByText := true, laidKinds := [.data], laidTests := true, laidLooks := .later }
def FnExactOnceFoundCardSaid : Prop := Claim7.holds Tryd.pinned (.plain (OpenSpec.ofChange fnExactOnceFoundSpec)) fnExactOnceFoundCard

/-- THE TIED CARD OF 'laws.FnOnce'. -/
def fnOnceCard : Claim7 := { stood := { row := fnOnceRow, standIns := [], harness := (true, "9b9a7b10c814994ed8fcdd8024231610a810bec324bf25d5a6191953f2e9c623"), looks := false }, kinds := [], alts := [], laidByText := true, laidKinds := [.data], laidTests := true, laidLooks := .later }
def FnOnceCardSaid : Prop := Claim7.holds Tryd.pinned (.plain (OpenSpec.ofChange fnOnceSpec)) fnOnceCard

/-- THE TIED CARD OF 'laws.FnExactCheckSig'. -/
def fnExactCheckSigCard : Claim7 := { stood := { row := fnExactCheckSigRow, standIns := [], harness := (true, "9b9a7b10c814994ed8fcdd8024231610a810bec324bf25d5a6191953f2e9c623"), looks := false }, kinds := [], alts := [], laidByText := true, laidKinds := [.data], laidTests := true, laidLooks := .later }
def FnExactCheckSigCardSaid : Prop := Claim7.holds Tryd.pinned (.plain (OpenSpec.ofChange fnExactCheckSigSpec)) fnExactCheckSigCard

/-- THE TIED CARD OF 'laws.FnExactHyperCheck'. -/
def fnExactHyperCheckCard : Claim7 := { stood := { row := fnExactHyperCheckRow, standIns := [], harness := (true, "9b9a7b10c814994ed8fcdd8024231610a810bec324bf25d5a6191953f2e9c623"), looks := false }, kinds := [], alts := [], laidByText := true, laidKinds := [.data], laidTests := true, laidLooks := .later }
def FnExactHyperCheckCardSaid : Prop := Claim7.holds Tryd.pinned (.plain (OpenSpec.ofChange fnExactHyperCheckSpec)) fnExactHyperCheckCard

/-- THE TIED CARD OF 'laws.FnExactSignAt'. -/
def fnExactSignAtCard : Claim7 := { stood := { row := fnExactSignAtRow, standIns := [], harness := (true, "9b9a7b10c814994ed8fcdd8024231610a810bec324bf25d5a6191953f2e9c623"), looks := false }, kinds := [], alts := [], laidByText := true, laidKinds := [.data], laidTests := true, laidLooks := .later }
def FnExactSignAtCardSaid : Prop := Claim7.holds Tryd.pinned (.plain (OpenSpec.ofChange fnExactSignAtSpec)) fnExactSignAtCard

/-- THE TIED CARD OF 'laws.FnSigns'. -/
def fnSignsCard : Claim7 := { stood := { row := fnSignsRow, standIns := [], harness := (true, "9b9a7b10c814994ed8fcdd8024231610a810bec324bf25d5a6191953f2e9c623"), looks := false }, kinds := [], alts := [], laidByText := true, laidKinds := [.data], laidTests := true, laidLooks := .later }
def FnSignsCardSaid : Prop := Claim7.holds Tryd.pinned (.plain (OpenSpec.ofChange fnSignsSpec)) fnSignsCard

/-- THE TIED CARD OF 'laws.FnExactHyperSign'. -/
def fnExactHyperSignCard : Claim7 := { stood := { row := fnExactHyperSignRow, standIns := [], harness := (true, "9b9a7b10c814994ed8fcdd8024231610a810bec324bf25d5a6191953f2e9c623"), looks := false }, kinds := [], alts := [], laidByText := true, laidKinds := [.data], laidTests := true, laidLooks := .later }
def FnExactHyperSignCardSaid : Prop := Claim7.holds Tryd.pinned (.plain (OpenSpec.ofChange fnExactHyperSignSpec)) fnExactHyperSignCard

/-- THE TIED CARD OF 'laws.FnChecks'. -/
def fnChecksCard : Claim7 := { stood := { row := fnChecksRow, standIns := [], harness := (true, "9b9a7b10c814994ed8fcdd8024231610a810bec324bf25d5a6191953f2e9c623"), looks := false }, kinds := [], alts := [], laidByText := true, laidKinds := [.data], laidTests := true, laidLooks := .later }
def FnChecksCardSaid : Prop := Claim7.holds Tryd.pinned (.plain (OpenSpec.ofChange fnChecksSpec)) fnChecksCard

/-- THE TIED CARD OF 'laws.FnHypers'. -/
def fnHypersCard : Claim7 := { stood := { row := fnHypersRow, standIns := [], harness := (true, "9b9a7b10c814994ed8fcdd8024231610a810bec324bf25d5a6191953f2e9c623"), looks := false }, kinds := [], alts := [], laidByText := true, laidKinds := [.data], laidTests := true, laidLooks := .later }
def FnHypersCardSaid : Prop := Claim7.holds Tryd.pinned (.plain (OpenSpec.ofChange fnHypersSpec)) fnHypersCard

/-- THE SECOND FORM's CARD OF 'laws.FnExactMask'. -/
def fnExactMaskUptoCard : Claim7 := { stood := { row := fnExactMaskUptoRow, standIns := [], harness := (true, "9b9a7b10c814994ed8fcdd8024231610a810bec324bf25d5a6191953f2e9c623"), looks := false }, kinds := [], alts := [], laidByText := true, laidKinds := [.data], laidTests := true, laidLooks := .later }
def FnExactMaskUptoCardSaid : Prop := Claim7.holds Tryd.pinned (.plain (OpenSpec.upto fnExactMaskSpec)) fnExactMaskUptoCard

/-- THE SECOND FORM's CARD OF 'laws.FnExactOnceFound'. -/
def fnExactOnceFoundUptoCard : Claim7 := { stood := { row := fnExactOnceFoundUptoRow, standIns := [], harness := (true, "9b9a7b10c814994ed8fcdd8024231610a810bec324bf25d5a6191953f2e9c623"), looks := false }, kinds := [], alts := [], laidByText := true, laidKinds := [.data], laidTests := true, laidLooks := .later }
def FnExactOnceFoundUptoCardSaid : Prop := Claim7.holds Tryd.pinned (.plain (OpenSpec.upto fnExactOnceFoundSpec)) fnExactOnceFoundUptoCard

/-- THE SECOND FORM's CARD OF 'laws.FnOnce'. -/
def fnOnceUptoCard : Claim7 := { stood := { row := fnOnceUptoRow, standIns := [], harness := (true, "9b9a7b10c814994ed8fcdd8024231610a810bec324bf25d5a6191953f2e9c623"), looks := false }, kinds := [], alts := [], laidByText := true, laidKinds := [.data], laidTests := true, laidLooks := .later }
def FnOnceUptoCardSaid : Prop := Claim7.holds Tryd.pinned (.plain (OpenSpec.upto fnOnceSpec)) fnOnceUptoCard

/-- THE SECOND FORM's CARD OF 'laws.FnExactCheckSig'. -/
def fnExactCheckSigUptoCard : Claim7 := { stood := { row := fnExactCheckSigUptoRow, standIns := [], harness := (true, "9b9a7b10c814994ed8fcdd8024231610a810bec324bf25d5a6191953f2e9c623"), looks := false }, kinds := [], alts := [], laidByText := true, laidKinds := [.data], laidTests := true, laidLooks := .later }
def FnExactCheckSigUptoCardSaid : Prop := Claim7.holds Tryd.pinned (.plain (OpenSpec.upto fnExactCheckSigSpec)) fnExactCheckSigUptoCard

/-- THE SECOND FORM's CARD OF 'laws.FnExactHyperCheck'. -/
def fnExactHyperCheckUptoCard : Claim7 := { stood := { row := fnExactHyperCheckUptoRow, standIns := [], harness := (true, "9b9a7b10c814994ed8fcdd8024231610a810bec324bf25d5a6191953f2e9c623"), looks := false }, kinds := [], alts := [], laidByText := true, laidKinds := [.data], laidTests := true, laidLooks := .later }
def FnExactHyperCheckUptoCardSaid : Prop := Claim7.holds Tryd.pinned (.plain (OpenSpec.upto fnExactHyperCheckSpec)) fnExactHyperCheckUptoCard

/-- THE SECOND FORM's CARD OF 'laws.FnExactSignAt'. -/
def fnExactSignAtUptoCard : Claim7 := { stood := { row := fnExactSignAtUptoRow, standIns := [], harness := (true, "9b9a7b10c814994ed8fcdd8024231610a810bec324bf25d5a6191953f2e9c623"), looks := false }, kinds := [], alts := [], laidByText := true, laidKinds := [.data], laidTests := true, laidLooks := .later }
def FnExactSignAtUptoCardSaid : Prop := Claim7.holds Tryd.pinned (.plain (OpenSpec.upto fnExactSignAtSpec)) fnExactSignAtUptoCard

/-- THE SECOND FORM's CARD OF 'laws.FnSigns'. -/
def fnSignsUptoCard : Claim7 := { stood := { row := fnSignsUptoRow, standIns := [], harness := (true, "9b9a7b10c814994ed8fcdd8024231610a810bec324bf25d5a6191953f2e9c623"), looks := false }, kinds := [], alts := [], laidByText := true, laidKinds := [.data], laidTests := true, laidLooks := .later }
def FnSignsUptoCardSaid : Prop := Claim7.holds Tryd.pinned (.plain (OpenSpec.upto fnSignsSpec)) fnSignsUptoCard

/-- THE SECOND FORM's CARD OF 'laws.FnExactHyperSign'. -/
def fnExactHyperSignUptoCard : Claim7 := { stood := { row := fnExactHyperSignUptoRow, standIns := [], harness := (true, "9b9a7b10c814994ed8fcdd8024231610a810bec324bf25d5a6191953f2e9c623"), looks := false }, kinds := [], alts := [], laidByText := true, laidKinds := [.data], laidTests := true, laidLooks := .later }
def FnExactHyperSignUptoCardSaid : Prop := Claim7.holds Tryd.pinned (.plain (OpenSpec.upto fnExactHyperSignSpec)) fnExactHyperSignUptoCard

/-- THE SECOND FORM's CARD OF 'laws.FnChecks'. -/
def fnChecksUptoCard : Claim7 := { stood := { row := fnChecksUptoRow, standIns := [], harness := (true, "9b9a7b10c814994ed8fcdd8024231610a810bec324bf25d5a6191953f2e9c623"), looks := false }, kinds := [], alts := [], laidByText := true, laidKinds := [.data], laidTests := true, laidLooks := .later }
def FnChecksUptoCardSaid : Prop := Claim7.holds Tryd.pinned (.plain (OpenSpec.upto fnChecksSpec)) fnChecksUptoCard

/-- THE SECOND FORM's CARD OF 'laws.FnHypers'. -/
def fnHypersUptoCard : Claim7 := { stood := { row := fnHypersUptoRow, standIns := [], harness := (true, "9b9a7b10c814994ed8fcdd8024231610a810bec324bf25d5a6191953f2e9c623"), looks := false }, kinds := [], alts := [], laidByText := true, laidKinds := [.data], laidTests := true, laidLooks := .later }
def FnHypersUptoCardSaid : Prop := Claim7.holds Tryd.pinned (.plain (OpenSpec.upto fnHypersSpec)) fnHypersUptoCard
end Rows
end Go.Proofs.YtjcmafoepabpkaaDoor

/-
  DERIVED. GIVEN WITH THE SEED: THE CARDS: each row of YtojdllodojbnfaaDoorRows.lean that lists a variable, with what it lists TIED to the program's text (the seventh form; the later family's looks); each row that meets fmt, with fmt's text TOLD by the authors' own Lean function (tested against real Go, not proved from fmt's source: count such statements apart). THE CARD IS WHAT COUNTS. Prove the row's statement (the work); the ties are given (YtojdllodojbnfaaDoorTie.lean); close each card by the builder's one call (the guide's Derived/Test/ToyasCard.lean, 'card_holds'). Laid BY PROGRAM, IN A SANDBOX (cutbox-door.mjs). By AI agents, Wed Nov 11 2026. No macro, syntax, notation, axiom, sorry.
-/
import Derived.Test.YtojdllodojbnfaaDoorRows
import GoSem.ClaimSeven
namespace Go.Proofs.YtojdllodojbnfaaDoor
namespace Rows

/-- THE TIED CARD OF 'laws.FnExactChop'. -/
def fnExactChopCard : Claim7 := { stood := { row := fnExactChopRow, standIns := [], harness := (true, "5b6904015458f4e5afe230f8947c2a0b4d129d73baaa8a9cc7eebe0e7b1499a5"), looks := false }, kinds := [], alts := [], laidByText := true, laidKinds := [.data], laidTests := true, laidLooks := .later }
def FnExactChopCardSaid : Prop := Claim7.holds Tryd.pinned (.plain (OpenSpec.ofChange fnExactChopSpec)) fnExactChopCard

/-- THE TIED CARD OF 'laws.FnExactNode'. -/
def fnExactNodeCard : Claim7 := { stood := { row := fnExactNodeRow, standIns := [], harness := (true, "5b6904015458f4e5afe230f8947c2a0b4d129d73baaa8a9cc7eebe0e7b1499a5"), looks := false }, kinds := [], alts := [], laidByText := true, laidKinds := [.data], laidTests := true, laidLooks := .later }
def FnExactNodeCardSaid : Prop := Claim7.holds Tryd.pinned (.plain (OpenSpec.ofChange fnExactNodeSpec)) fnExactNodeCard

/-- THE TIED CARD OF 'laws.FnExactChainOf'. -/
def fnExactChainOfCard : Claim7 := { stood := { row := fnExactChainOfRow, standIns := [], harness := (true, "5b6904015458f4e5afe230f8947c2a0b4d129d73baaa8a9cc7eebe0e7b1499a5"), looks := false }, kinds := [], alts := [], laidByText := true, laidKinds := [.data], laidTests := true, laidLooks := .later }
def FnExactChainOfCardSaid : Prop := Claim7.holds Tryd.pinned (.plain (OpenSpec.ofChange fnExactChainOfSpec)) fnExactChainOfCard

/-- THE TIED CARD OF 'laws.FnExactDigitsOf'. -/
def fnExactDigitsOfCard : Claim7 := { stood := { row := fnExactDigitsOfRow, standIns := [], harness := (true, "5b6904015458f4e5afe230f8947c2a0b4d129d73baaa8a9cc7eebe0e7b1499a5"), looks := false }, kinds := [], alts := [], laidByText := true, laidKinds := [.data], laidTests := true, laidLooks := .later }
def FnExactDigitsOfCardSaid : Prop := Claim7.holds Tryd.pinned (.plain (OpenSpec.ofChange fnExactDigitsOfSpec)) fnExactDigitsOfCard

/-- THE TIED CARD OF 'laws.FnExactOnceKey'. -/
def fnExactOnceKeyCard : Claim7 := { stood := { row := fnExactOnceKeyRow, standIns := [], harness := (true, "5b6904015458f4e5afe230f8947c2a0b4d129d73baaa8a9cc7eebe0e7b1499a5"), looks := false }, kinds := [], alts := [], laidByText := true, laidKinds := [.data], laidTests := true, laidLooks := .later }
def FnExactOnceKeyCardSaid : Prop := Claim7.holds Tryd.pinned (.plain (OpenSpec.ofChange fnExactOnceKeySpec)) fnExactOnceKeyCard

/-- THE TIED CARD OF 'laws.FnExactOncePublic'. -/
def fnExactOncePublicCard : Claim7 := { stood := { row := fnExactOncePublicRow, standIns := [], harness := (true, "5b6904015458f4e5afe230f8947c2a0b4d129d73baaa8a9cc7eebe0e7b1499a5"), looks := false }, kinds := [], alts := [], laidByText := true, laidKinds := [.data], laidTests := true, laidLooks := .later }
def FnExactOncePublicCardSaid : Prop := Claim7.holds Tryd.pinned (.plain (OpenSpec.ofChange fnExactOncePublicSpec)) fnExactOncePublicCard

/-- THE TIED CARD OF 'laws.FnExactRootBy'. -/
def fnExactRootByCard : Claim7 := { stood := { row := fnExactRootByRow, standIns := [], harness := (true, "5b6904015458f4e5afe230f8947c2a0b4d129d73baaa8a9cc7eebe0e7b1499a5"), looks := false }, kinds := [], alts := [], laidByText := true, laidKinds := [.data], laidTests := true, laidLooks := .later }
def FnExactRootByCardSaid : Prop := Claim7.holds Tryd.pinned (.plain (OpenSpec.ofChange fnExactRootBySpec)) fnExactRootByCard

/-- THE TIED CARD OF 'laws.FnExactRootOf'. -/
def fnExactRootOfCard : Claim7 := { stood := { row := fnExactRootOfRow, standIns := [], harness := (true, "5b6904015458f4e5afe230f8947c2a0b4d129d73baaa8a9cc7eebe0e7b1499a5"), looks := false }, kinds := [], alts := [], laidByText := true, laidKinds := [.data], laidTests := true, laidLooks := .later }
def FnExactRootOfCardSaid : Prop := Claim7.holds Tryd.pinned (.plain (OpenSpec.ofChange fnExactRootOfSpec)) fnExactRootOfCard

/-- THE TIED CARD OF 'laws.FnExactLevelUp'. -/
def fnExactLevelUpCard : Claim7 := { stood := { row := fnExactLevelUpRow, standIns := [], harness := (true, "5b6904015458f4e5afe230f8947c2a0b4d129d73baaa8a9cc7eebe0e7b1499a5"), looks := false }, kinds := [], alts := [], laidByText := true, laidKinds := [.data], laidTests := true, laidLooks := .later }
def FnExactLevelUpCardSaid : Prop := Claim7.holds Tryd.pinned (.plain (OpenSpec.ofChange fnExactLevelUpSpec)) fnExactLevelUpCard

/-- THE SECOND FORM's CARD OF 'laws.FnExactChop'. -/
def fnExactChopUptoCard : Claim7 := { stood := { row := fnExactChopUptoRow, standIns := [], harness := (true, "5b6904015458f4e5afe230f8947c2a0b4d129d73baaa8a9cc7eebe0e7b1499a5"), looks := false }, kinds := [], alts := [], laidByText := true, laidKinds := [.data], laidTests := true, laidLooks := .later }
def FnExactChopUptoCardSaid : Prop := Claim7.holds Tryd.pinned (.plain (OpenSpec.upto fnExactChopSpec)) fnExactChopUptoCard

/-- THE SECOND FORM's CARD OF 'laws.FnExactNode'. -/
def fnExactNodeUptoCard : Claim7 := { stood := { row := fnExactNodeUptoRow, standIns := [], harness := (true, "5b6904015458f4e5afe230f8947c2a0b4d129d73baaa8a9cc7eebe0e7b1499a5"), looks := false }, kinds := [], alts := [], laidByText := true, laidKinds := [.data], laidTests := true, laidLooks := .later }
def FnExactNodeUptoCardSaid : Prop := Claim7.holds Tryd.pinned (.plain (OpenSpec.upto fnExactNodeSpec)) fnExactNodeUptoCard

/-- THE SECOND FORM's CARD OF 'laws.FnExactChainOf'. -/
def fnExactChainOfUptoCard : Claim7 := { stood := { row := fnExactChainOfUptoRow, standIns := [], harness := (true, "5b6904015458f4e5afe230f8947c2a0b4d129d73baaa8a9cc7eebe0e7b1499a5"), looks := false }, kinds := [], alts := [], laidByText := true, laidKinds := [.data], laidTests := true, laidLooks := .later }
def FnExactChainOfUptoCardSaid : Prop := Claim7.holds Tryd.pinned (.plain (OpenSpec.upto fnExactChainOfSpec)) fnExactChainOfUptoCard

/-- THE SECOND FORM's CARD OF 'laws.FnExactDigitsOf'. -/
def fnExactDigitsOfUptoCard : Claim7 := { stood := { row := fnExactDigitsOfUptoRow, standIns := [], harness := (true, "5b6904015458f4e5afe230f8947c2a0b4d129d73baaa8a9cc7eebe0e7b1499a5"), looks := false }, kinds := [], alts := [], laidByText := true, laidKinds := [.data], laidTests := true, laidLooks := .later }
def FnExactDigitsOfUptoCardSaid : Prop := Claim7.holds Tryd.pinned (.plain (OpenSpec.upto fnExactDigitsOfSpec)) fnExactDigitsOfUptoCard

/-- THE SECOND FORM's CARD OF 'laws.FnExactOnceKey'. -/
def fnExactOnceKeyUptoCard : Claim7 := { stood := { row := fnExactOnceKeyUptoRow, standIns := [], harness := (true, "5b6904015458f4e5afe230f8947c2a0b4d129d73baaa8a9cc7eebe0e7b1499a5"), looks := false }, kinds := [], alts := [], laidByText := true, laidKinds := [.data], laidTests := true, laidLooks := .later }
def FnExactOnceKeyUptoCardSaid : Prop := Claim7.holds Tryd.pinned (.plain (OpenSpec.upto fnExactOnceKeySpec)) fnExactOnceKeyUptoCard

/-- THE SECOND FORM's CARD OF 'laws.FnExactOncePublic'. -/
def fnExactOncePublicUptoCard : Claim7 := { stood := { row := fnExactOncePublicUptoRow, standIns := [], harness := (true, "5b6904015458f4e5afe230f8947c2a0b4d129d73baaa8a9cc7eebe0e7b1499a5"), looks := false }, kinds := [], alts := [], laidByText := true, laidKinds := [.data], laidTests := true, laidLooks := .later }
def FnExactOncePublicUptoCardSaid : Prop := Claim7.holds Tryd.pinned (.plain (OpenSpec.upto fnExactOncePublicSpec)) fnExactOncePublicUptoCard

/-- THE SECOND FORM's CARD OF 'laws.FnExactRootBy'. -/
def fnExactRootByUptoCard : Claim7 := { stood := { row := fnExactRootByUptoRow, standIns := [], harness := (true, "5b6904015458f4e5afe230f8947c2a0b4d129d73baaa8a9cc7eebe0e7b1499a5"), looks := false }, kinds := [], alts := [], laidByText := true, laidKinds := [.data], laidTests := true, laidLooks := .later }
def FnExactRootByUptoCardSaid : Prop := Claim7.holds Tryd.pinned (.plain (OpenSpec.upto fnExactRootBySpec)) fnExactRootByUptoCard

/-- THE SECOND FORM's CARD OF 'laws.FnExactRootOf'. -/
def fnExactRootOfUptoCard : Claim7 := { stood := { row := fnExactRootOfUptoRow, standIns := [], harness := (true, "5b6904015458f4e5afe230f8947c2a0b4d129d73baaa8a9cc7eebe0e7b1499a5"), looks := false }, kinds := [], alts := [], laidByText := true, laidKinds := [.data], laidTests := true, laidLooks := .later }
def FnExactRootOfUptoCardSaid : Prop := Claim7.holds Tryd.pinned (.plain (OpenSpec.upto fnExactRootOfSpec)) fnExactRootOfUptoCard

/-- THE SECOND FORM's CARD OF 'laws.FnExactLevelUp'. -/
def fnExactLevelUpUptoCard : Claim7 := { stood := { row := fnExactLevelUpUptoRow, standIns := [], harness := (true, "5b6904015458f4e5afe230f8947c2a0b4d129d73baaa8a9cc7eebe0e7b1499a5"), looks := false }, kinds := [], alts := [], laidByText := true, laidKinds := [.data], laidTests := true, laidLooks := .later }
def FnExactLevelUpUptoCardSaid : Prop := Claim7.holds Tryd.pinned (.plain (OpenSpec.upto fnExactLevelUpSpec)) fnExactLevelUpUptoCard
end Rows
end Go.Proofs.YtojdllodojbnfaaDoor

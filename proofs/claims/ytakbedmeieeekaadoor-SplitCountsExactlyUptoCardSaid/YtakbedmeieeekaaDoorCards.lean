/-
  DERIVED. GIVEN WITH THE SEED: THE CARDS: each row of YtakbedmeieeekaaDoorRows.lean that lists a variable, with what it lists TIED to the program's text (the seventh form; the later family's looks); each row that meets fmt, with fmt's text TOLD by the authors' own Lean function (tested against real Go, not proved from fmt's source: count such statements apart). THE CARD IS WHAT COUNTS. Prove the row's statement (the work); the ties are given (YtakbedmeieeekaaDoorTie.lean); close each card by the builder's one call (the guide's Derived/Test/ToyasCard.lean, 'card_holds'). Laid BY PROGRAM, IN A SANDBOX (cutbox-door.mjs). By AI agents, Wed Nov 11 2026. No macro, syntax, notation, axiom, sorry.
-/
import Derived.Test.YtakbedmeieeekaaDoorRows
import GoSem.ClaimSeven
namespace Go.Proofs.YtakbedmeieeekaaDoor
namespace Rows

/-- THE TIED CARD OF 'quietuslaw26.SplitSharesAsSpecified'. -/
def splitSharesAsSpecifiedCard : Claim7 := { stood := { row := splitSharesAsSpecifiedRow, standIns := [], harness := (true, "84dd4d7bf0c8643ac6e18f8bcef771cd8f59fd929051b658ad28be2a64d0bd28"), looks := false }, kinds := [], alts := [], laidByText := true, laidKinds := [.data], laidTests := true, laidLooks := .later }
def SplitSharesAsSpecifiedCardSaid : Prop := Claim7.holds Tryd.pinned (.plain (OpenSpec.ofChange splitSharesAsSpecifiedSpec)) splitSharesAsSpecifiedCard

/-- THE TIED CARD OF 'quietuslaw26.SplitJoinsAsSpecified'. -/
def splitJoinsAsSpecifiedCard : Claim7 := { stood := { row := splitJoinsAsSpecifiedRow, standIns := [], harness := (true, "84dd4d7bf0c8643ac6e18f8bcef771cd8f59fd929051b658ad28be2a64d0bd28"), looks := false }, kinds := [], alts := [], laidByText := true, laidKinds := [.data], laidTests := true, laidLooks := .later }
def SplitJoinsAsSpecifiedCardSaid : Prop := Claim7.holds Tryd.pinned (.plain (OpenSpec.ofChange splitJoinsAsSpecifiedSpec)) splitJoinsAsSpecifiedCard

/-- THE TIED CARD OF 'quietuslaw26.SplitCorrectsAsSpecified'. -/
def splitCorrectsAsSpecifiedCard : Claim7 := { stood := { row := splitCorrectsAsSpecifiedRow, standIns := [], harness := (true, "84dd4d7bf0c8643ac6e18f8bcef771cd8f59fd929051b658ad28be2a64d0bd28"), looks := false }, kinds := [], alts := [], laidByText := true, laidKinds := [.data], laidTests := true, laidLooks := .later }
def SplitCorrectsAsSpecifiedCardSaid : Prop := Claim7.holds Tryd.pinned (.plain (OpenSpec.ofChange splitCorrectsAsSpecifiedSpec)) splitCorrectsAsSpecifiedCard

/-- THE TIED CARD OF 'quietuslaw26.SplitRestores'. -/
def splitRestoresCard : Claim7 := { stood := { row := splitRestoresRow, standIns := [], harness := (true, "84dd4d7bf0c8643ac6e18f8bcef771cd8f59fd929051b658ad28be2a64d0bd28"), looks := false }, kinds := [], alts := [], laidByText := true, laidKinds := [.data], laidTests := true, laidLooks := .later }
def SplitRestoresCardSaid : Prop := Claim7.holds Tryd.pinned (.plain (OpenSpec.ofChange splitRestoresSpec)) splitRestoresCard

/-- THE TIED CARD OF 'quietuslaw26.SplitCountsExactly'. -/
def splitCountsExactlyCard : Claim7 := { stood := { row := splitCountsExactlyRow, standIns := [], harness := (true, "84dd4d7bf0c8643ac6e18f8bcef771cd8f59fd929051b658ad28be2a64d0bd28"), looks := false }, kinds := [], alts := [], laidByText := true, laidKinds := [.data], laidTests := true, laidLooks := .later }
def SplitCountsExactlyCardSaid : Prop := Claim7.holds Tryd.pinned (.plain (OpenSpec.ofChange splitCountsExactlySpec)) splitCountsExactlyCard

/-- THE TIED CARD OF 'quietuslaw26.SplitCorrects'. -/
def splitCorrectsCard : Claim7 := { stood := { row := splitCorrectsRow, standIns := [], harness := (true, "84dd4d7bf0c8643ac6e18f8bcef771cd8f59fd929051b658ad28be2a64d0bd28"), looks := false }, kinds := [], alts := [], laidByText := true, laidKinds := [.data], laidTests := true, laidLooks := .later }
def SplitCorrectsCardSaid : Prop := Claim7.holds Tryd.pinned (.plain (OpenSpec.ofChange splitCorrectsSpec)) splitCorrectsCard

/-- THE TIED CARD OF 'quietuslaw26.SplitAdds'. -/
def splitAddsCard : Claim7 := { stood := { row := splitAddsRow, standIns := [], harness := (true, "84dd4d7bf0c8643ac6e18f8bcef771cd8f59fd929051b658ad28be2a64d0bd28"), looks := false }, kinds := [], alts := [], laidByText := true, laidKinds := [.data], laidTests := true, laidLooks := .later }
def SplitAddsCardSaid : Prop := Claim7.holds Tryd.pinned (.plain (OpenSpec.ofChange splitAddsSpec)) splitAddsCard

/-- THE TIED CARD OF 'quietuslaw26.SplitHides'. -/
def splitHidesCard : Claim7 := { stood := { row := splitHidesRow, standIns := [], harness := (true, "84dd4d7bf0c8643ac6e18f8bcef771cd8f59fd929051b658ad28be2a64d0bd28"), looks := false }, kinds := [], alts := [], laidByText := true, laidKinds := [.data], laidTests := true, laidLooks := .later }
def SplitHidesCardSaid : Prop := Claim7.holds Tryd.pinned (.plain (OpenSpec.ofChange splitHidesSpec)) splitHidesCard

/-- THE SECOND FORM's CARD OF 'quietuslaw26.SplitSharesAsSpecified'. -/
def splitSharesAsSpecifiedUptoCard : Claim7 := { stood := { row := splitSharesAsSpecifiedUptoRow, standIns := [], harness := (true, "84dd4d7bf0c8643ac6e18f8bcef771cd8f59fd929051b658ad28be2a64d0bd28"), looks := false }, kinds := [], alts := [], laidByText := true, laidKinds := [.data], laidTests := true, laidLooks := .later }
def SplitSharesAsSpecifiedUptoCardSaid : Prop := Claim7.holds Tryd.pinned (.plain (OpenSpec.upto splitSharesAsSpecifiedSpec)) splitSharesAsSpecifiedUptoCard

/-- THE SECOND FORM's CARD OF 'quietuslaw26.SplitJoinsAsSpecified'. -/
def splitJoinsAsSpecifiedUptoCard : Claim7 := { stood := { row := splitJoinsAsSpecifiedUptoRow, standIns := [], harness := (true, "84dd4d7bf0c8643ac6e18f8bcef771cd8f59fd929051b658ad28be2a64d0bd28"), looks := false }, kinds := [], alts := [], laidByText := true, laidKinds := [.data], laidTests := true, laidLooks := .later }
def SplitJoinsAsSpecifiedUptoCardSaid : Prop := Claim7.holds Tryd.pinned (.plain (OpenSpec.upto splitJoinsAsSpecifiedSpec)) splitJoinsAsSpecifiedUptoCard

/-- THE SECOND FORM's CARD OF 'quietuslaw26.SplitCorrectsAsSpecified'. -/
def splitCorrectsAsSpecifiedUptoCard : Claim7 := { stood := { row := splitCorrectsAsSpecifiedUptoRow, standIns := [], harness := (true, "84dd4d7bf0c8643ac6e18f8bcef771cd8f59fd929051b658ad28be2a64d0bd28"), looks := false }, kinds := [], alts := [], laidByText := true, laidKinds := [.data], laidTests := true, laidLooks := .later }
def SplitCorrectsAsSpecifiedUptoCardSaid : Prop := Claim7.holds Tryd.pinned (.plain (OpenSpec.upto splitCorrectsAsSpecifiedSpec)) splitCorrectsAsSpecifiedUptoCard

/-- THE SECOND FORM's CARD OF 'quietuslaw26.SplitRestores'. -/
def splitRestoresUptoCard : Claim7 := { stood := { row := splitRestoresUptoRow, standIns := [], harness := (true, "84dd4d7bf0c8643ac6e18f8bcef771cd8f59fd929051b658ad28be2a64d0bd28"), looks := false }, kinds := [], alts := [], laidByText := true, laidKinds := [.data], laidTests := true, laidLooks := .later }
def SplitRestoresUptoCardSaid : Prop := Claim7.holds Tryd.pinned (.plain (OpenSpec.upto splitRestoresSpec)) splitRestoresUptoCard

/-- THE SECOND FORM's CARD OF 'quietuslaw26.SplitCountsExactly'. -/
def splitCountsExactlyUptoCard : Claim7 := { stood := { row := splitCountsExactlyUptoRow, standIns := [], harness := (true, "84dd4d7bf0c8643ac6e18f8bcef771cd8f59fd929051b658ad28be2a64d0bd28"), looks := false }, kinds := [], alts := [], laidByText := true, laidKinds := [.data], laidTests := true, laidLooks := .later }
def SplitCountsExactlyUptoCardSaid : Prop := Claim7.holds Tryd.pinned (.plain (OpenSpec.upto splitCountsExactlySpec)) splitCountsExactlyUptoCard

/-- THE SECOND FORM's CARD OF 'quietuslaw26.SplitCorrects'. -/
def splitCorrectsUptoCard : Claim7 := { stood := { row := splitCorrectsUptoRow, standIns := [], harness := (true, "84dd4d7bf0c8643ac6e18f8bcef771cd8f59fd929051b658ad28be2a64d0bd28"), looks := false }, kinds := [], alts := [], laidByText := true, laidKinds := [.data], laidTests := true, laidLooks := .later }
def SplitCorrectsUptoCardSaid : Prop := Claim7.holds Tryd.pinned (.plain (OpenSpec.upto splitCorrectsSpec)) splitCorrectsUptoCard

/-- THE SECOND FORM's CARD OF 'quietuslaw26.SplitAdds'. -/
def splitAddsUptoCard : Claim7 := { stood := { row := splitAddsUptoRow, standIns := [], harness := (true, "84dd4d7bf0c8643ac6e18f8bcef771cd8f59fd929051b658ad28be2a64d0bd28"), looks := false }, kinds := [], alts := [], laidByText := true, laidKinds := [.data], laidTests := true, laidLooks := .later }
def SplitAddsUptoCardSaid : Prop := Claim7.holds Tryd.pinned (.plain (OpenSpec.upto splitAddsSpec)) splitAddsUptoCard

/-- THE SECOND FORM's CARD OF 'quietuslaw26.SplitHides'. -/
def splitHidesUptoCard : Claim7 := { stood := { row := splitHidesUptoRow, standIns := [], harness := (true, "84dd4d7bf0c8643ac6e18f8bcef771cd8f59fd929051b658ad28be2a64d0bd28"), looks := false }, kinds := [], alts := [], laidByText := true, laidKinds := [.data], laidTests := true, laidLooks := .later }
def SplitHidesUptoCardSaid : Prop := Claim7.holds Tryd.pinned (.plain (OpenSpec.upto splitHidesSpec)) splitHidesUptoCard
end Rows
end Go.Proofs.YtakbedmeieeekaaDoor

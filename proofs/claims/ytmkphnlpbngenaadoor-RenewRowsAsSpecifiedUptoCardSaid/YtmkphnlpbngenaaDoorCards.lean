/-
  DERIVED. GIVEN WITH THE SEED: THE CARDS: each row of YtmkphnlpbngenaaDoorRows.lean that lists a variable, with what it lists TIED to the program's text (the seventh form; the later family's looks); each row that meets fmt, with fmt's text TOLD by the authors' own Lean function (tested against real Go, not proved from fmt's source: count such statements apart). THE CARD IS WHAT COUNTS. Prove the row's statement (the work); the ties are given (YtmkphnlpbngenaaDoorTie.lean); close each card by the builder's one call (the guide's Derived/Test/ToyasCard.lean, 'card_holds'). Laid BY PROGRAM, IN A SANDBOX (cutbox-door.mjs). By AI agents, Wed Nov 11 2026. No macro, syntax, notation, axiom, sorry.
-/
import Derived.Test.YtmkphnlpbngenaaDoorRows
import GoSem.ClaimSeven
namespace Go.Proofs.YtmkphnlpbngenaaDoor
namespace Rows

/-- THE TIED CARD OF 'quietuslaw27.RenewDealsAsSpecified'. -/
def renewDealsAsSpecifiedCard : Claim7 := { stood := { row := renewDealsAsSpecifiedRow, standIns := [], harness := (true, "69c401c42d58341f09232a8ada44447581e4f38294e2cdd34fa009f4d87f5969"), looks := false }, kinds := [], alts := [], laidByText := true, laidKinds := [.data], laidTests := true, laidLooks := .later }
def RenewDealsAsSpecifiedCardSaid : Prop := Claim7.holds Tryd.pinned (.plain (OpenSpec.ofChange renewDealsAsSpecifiedSpec)) renewDealsAsSpecifiedCard

/-- THE TIED CARD OF 'quietuslaw27.RenewRowsAsSpecified'. -/
def renewRowsAsSpecifiedCard : Claim7 := { stood := { row := renewRowsAsSpecifiedRow, standIns := [], harness := (true, "69c401c42d58341f09232a8ada44447581e4f38294e2cdd34fa009f4d87f5969"), looks := false }, kinds := [], alts := [], laidByText := true, laidKinds := [.data], laidTests := true, laidLooks := .later }
def RenewRowsAsSpecifiedCardSaid : Prop := Claim7.holds Tryd.pinned (.plain (OpenSpec.ofChange renewRowsAsSpecifiedSpec)) renewRowsAsSpecifiedCard

/-- THE TIED CARD OF 'quietuslaw27.RenewRefills'. -/
def renewRefillsCard : Claim7 := { stood := { row := renewRefillsRow, standIns := [], harness := (true, "69c401c42d58341f09232a8ada44447581e4f38294e2cdd34fa009f4d87f5969"), looks := false }, kinds := [], alts := [], laidByText := true, laidKinds := [.data], laidTests := true, laidLooks := .later }
def RenewRefillsCardSaid : Prop := Claim7.holds Tryd.pinned (.plain (OpenSpec.ofChange renewRefillsSpec)) renewRefillsCard

/-- THE TIED CARD OF 'quietuslaw27.RenewIsOne'. -/
def renewIsOneCard : Claim7 := { stood := { row := renewIsOneRow, standIns := [], harness := (true, "69c401c42d58341f09232a8ada44447581e4f38294e2cdd34fa009f4d87f5969"), looks := false }, kinds := [], alts := [], laidByText := true, laidKinds := [.data], laidTests := true, laidLooks := .later }
def RenewIsOneCardSaid : Prop := Claim7.holds Tryd.pinned (.plain (OpenSpec.ofChange renewIsOneSpec)) renewIsOneCard

/-- THE TIED CARD OF 'quietuslaw27.RenewKeepsSecret'. -/
def renewKeepsSecretCard : Claim7 := { stood := { row := renewKeepsSecretRow, standIns := [], harness := (true, "69c401c42d58341f09232a8ada44447581e4f38294e2cdd34fa009f4d87f5969"), looks := false }, kinds := [], alts := [], laidByText := true, laidKinds := [.data], laidTests := true, laidLooks := .later }
def RenewKeepsSecretCardSaid : Prop := Claim7.holds Tryd.pinned (.plain (OpenSpec.ofChange renewKeepsSecretSpec)) renewKeepsSecretCard

/-- THE TIED CARD OF 'quietuslaw27.RenewTellsNothing'. -/
def renewTellsNothingCard : Claim7 := { stood := { row := renewTellsNothingRow, standIns := [], harness := (true, "69c401c42d58341f09232a8ada44447581e4f38294e2cdd34fa009f4d87f5969"), looks := false }, kinds := [], alts := [], laidByText := true, laidKinds := [.data], laidTests := true, laidLooks := .later }
def RenewTellsNothingCardSaid : Prop := Claim7.holds Tryd.pinned (.plain (OpenSpec.ofChange renewTellsNothingSpec)) renewTellsNothingCard

/-- THE TIED CARD OF 'quietuslaw27.RenewSeparates'. -/
def renewSeparatesCard : Claim7 := { stood := { row := renewSeparatesRow, standIns := [], harness := (true, "69c401c42d58341f09232a8ada44447581e4f38294e2cdd34fa009f4d87f5969"), looks := false }, kinds := [], alts := [], laidByText := true, laidKinds := [.data], laidTests := true, laidLooks := .later }
def RenewSeparatesCardSaid : Prop := Claim7.holds Tryd.pinned (.plain (OpenSpec.ofChange renewSeparatesSpec)) renewSeparatesCard

/-- THE SECOND FORM's CARD OF 'quietuslaw27.RenewDealsAsSpecified'. -/
def renewDealsAsSpecifiedUptoCard : Claim7 := { stood := { row := renewDealsAsSpecifiedUptoRow, standIns := [], harness := (true, "69c401c42d58341f09232a8ada44447581e4f38294e2cdd34fa009f4d87f5969"), looks := false }, kinds := [], alts := [], laidByText := true, laidKinds := [.data], laidTests := true, laidLooks := .later }
def RenewDealsAsSpecifiedUptoCardSaid : Prop := Claim7.holds Tryd.pinned (.plain (OpenSpec.upto renewDealsAsSpecifiedSpec)) renewDealsAsSpecifiedUptoCard

/-- THE SECOND FORM's CARD OF 'quietuslaw27.RenewRowsAsSpecified'. -/
def renewRowsAsSpecifiedUptoCard : Claim7 := { stood := { row := renewRowsAsSpecifiedUptoRow, standIns := [], harness := (true, "69c401c42d58341f09232a8ada44447581e4f38294e2cdd34fa009f4d87f5969"), looks := false }, kinds := [], alts := [], laidByText := true, laidKinds := [.data], laidTests := true, laidLooks := .later }
def RenewRowsAsSpecifiedUptoCardSaid : Prop := Claim7.holds Tryd.pinned (.plain (OpenSpec.upto renewRowsAsSpecifiedSpec)) renewRowsAsSpecifiedUptoCard

/-- THE SECOND FORM's CARD OF 'quietuslaw27.RenewRefills'. -/
def renewRefillsUptoCard : Claim7 := { stood := { row := renewRefillsUptoRow, standIns := [], harness := (true, "69c401c42d58341f09232a8ada44447581e4f38294e2cdd34fa009f4d87f5969"), looks := false }, kinds := [], alts := [], laidByText := true, laidKinds := [.data], laidTests := true, laidLooks := .later }
def RenewRefillsUptoCardSaid : Prop := Claim7.holds Tryd.pinned (.plain (OpenSpec.upto renewRefillsSpec)) renewRefillsUptoCard

/-- THE SECOND FORM's CARD OF 'quietuslaw27.RenewIsOne'. -/
def renewIsOneUptoCard : Claim7 := { stood := { row := renewIsOneUptoRow, standIns := [], harness := (true, "69c401c42d58341f09232a8ada44447581e4f38294e2cdd34fa009f4d87f5969"), looks := false }, kinds := [], alts := [], laidByText := true, laidKinds := [.data], laidTests := true, laidLooks := .later }
def RenewIsOneUptoCardSaid : Prop := Claim7.holds Tryd.pinned (.plain (OpenSpec.upto renewIsOneSpec)) renewIsOneUptoCard

/-- THE SECOND FORM's CARD OF 'quietuslaw27.RenewKeepsSecret'. -/
def renewKeepsSecretUptoCard : Claim7 := { stood := { row := renewKeepsSecretUptoRow, standIns := [], harness := (true, "69c401c42d58341f09232a8ada44447581e4f38294e2cdd34fa009f4d87f5969"), looks := false }, kinds := [], alts := [], laidByText := true, laidKinds := [.data], laidTests := true, laidLooks := .later }
def RenewKeepsSecretUptoCardSaid : Prop := Claim7.holds Tryd.pinned (.plain (OpenSpec.upto renewKeepsSecretSpec)) renewKeepsSecretUptoCard

/-- THE SECOND FORM's CARD OF 'quietuslaw27.RenewTellsNothing'. -/
def renewTellsNothingUptoCard : Claim7 := { stood := { row := renewTellsNothingUptoRow, standIns := [], harness := (true, "69c401c42d58341f09232a8ada44447581e4f38294e2cdd34fa009f4d87f5969"), looks := false }, kinds := [], alts := [], laidByText := true, laidKinds := [.data], laidTests := true, laidLooks := .later }
def RenewTellsNothingUptoCardSaid : Prop := Claim7.holds Tryd.pinned (.plain (OpenSpec.upto renewTellsNothingSpec)) renewTellsNothingUptoCard

/-- THE SECOND FORM's CARD OF 'quietuslaw27.RenewSeparates'. -/
def renewSeparatesUptoCard : Claim7 := { stood := { row := renewSeparatesUptoRow, standIns := [], harness := (true, "69c401c42d58341f09232a8ada44447581e4f38294e2cdd34fa009f4d87f5969"), looks := false }, kinds := [], alts := [], laidByText := true, laidKinds := [.data], laidTests := true, laidLooks := .later }
def RenewSeparatesUptoCardSaid : Prop := Claim7.holds Tryd.pinned (.plain (OpenSpec.upto renewSeparatesSpec)) renewSeparatesUptoCard
end Rows
end Go.Proofs.YtmkphnlpbngenaaDoor

/-
  DERIVED. GIVEN WITH THE SEED: THE CARDS: each row of YtlmegkgkipjgbaaDoorRows.lean that lists a variable, with what it lists TIED to the program's text (the seventh form; the later family's looks); each row that meets fmt, with fmt's text TOLD by the authors' own Lean function (tested against real Go, not proved from fmt's source: count such statements apart). THE CARD IS WHAT COUNTS. Prove the row's statement (the work); the ties are given (YtlmegkgkipjgbaaDoorTie.lean); close each card by the builder's one call (the guide's Derived/Test/ToyasCard.lean, 'card_holds'). Laid BY PROGRAM, IN A SANDBOX (cutbox-door.mjs). By AI agents, Wed Nov 11 2026. No macro, syntax, notation, axiom, sorry.
-/
import Derived.Test.YtlmegkgkipjgbaaDoorRows
import GoSem.ClaimSeven
namespace Go.Proofs.YtlmegkgkipjgbaaDoor
namespace Rows

/-- THE TIED CARD OF 'quietuslaw28.RoundStepsAsSpecified'. -/
def roundStepsAsSpecifiedCard : Claim7 := { stood := { row := roundStepsAsSpecifiedRow, standIns := [], harness := (true, "358ed09d0269388fb4b9efb47af376e14b80665bb884a8cd308b6b62d8bb5224"), looks := false }, kinds := [], alts := [], laidByText := true, laidKinds := [.data], laidTests := true, laidLooks := .later }
def RoundStepsAsSpecifiedCardSaid : Prop := Claim7.holds Tryd.pinned (.plain (OpenSpec.ofChange roundStepsAsSpecifiedSpec)) roundStepsAsSpecifiedCard

/-- THE TIED CARD OF 'quietuslaw28.RoundAgrees'. -/
def roundAgreesCard : Claim7 := { stood := { row := roundAgreesRow, standIns := [], harness := (true, "358ed09d0269388fb4b9efb47af376e14b80665bb884a8cd308b6b62d8bb5224"), looks := false }, kinds := [], alts := [], laidByText := true, laidKinds := [.data], laidTests := true, laidLooks := .later }
def RoundAgreesCardSaid : Prop := Claim7.holds Tryd.pinned (.plain (OpenSpec.ofChange roundAgreesSpec)) roundAgreesCard

/-- THE TIED CARD OF 'quietuslaw28.RoundIsSafe'. -/
def roundIsSafeCard : Claim7 := { stood := { row := roundIsSafeRow, standIns := [], harness := (true, "358ed09d0269388fb4b9efb47af376e14b80665bb884a8cd308b6b62d8bb5224"), looks := false }, kinds := [], alts := [], laidByText := true, laidKinds := [.data], laidTests := true, laidLooks := .later }
def RoundIsSafeCardSaid : Prop := Claim7.holds Tryd.pinned (.plain (OpenSpec.ofChange roundIsSafeSpec)) roundIsSafeCard

/-- THE SECOND FORM's CARD OF 'quietuslaw28.RoundStepsAsSpecified'. -/
def roundStepsAsSpecifiedUptoCard : Claim7 := { stood := { row := roundStepsAsSpecifiedUptoRow, standIns := [], harness := (true, "358ed09d0269388fb4b9efb47af376e14b80665bb884a8cd308b6b62d8bb5224"), looks := false }, kinds := [], alts := [], laidByText := true, laidKinds := [.data], laidTests := true, laidLooks := .later }
def RoundStepsAsSpecifiedUptoCardSaid : Prop := Claim7.holds Tryd.pinned (.plain (OpenSpec.upto roundStepsAsSpecifiedSpec)) roundStepsAsSpecifiedUptoCard

/-- THE SECOND FORM's CARD OF 'quietuslaw28.RoundAgrees'. -/
def roundAgreesUptoCard : Claim7 := { stood := { row := roundAgreesUptoRow, standIns := [], harness := (true, "358ed09d0269388fb4b9efb47af376e14b80665bb884a8cd308b6b62d8bb5224"), looks := false }, kinds := [], alts := [], laidByText := true, laidKinds := [.data], laidTests := true, laidLooks := .later }
def RoundAgreesUptoCardSaid : Prop := Claim7.holds Tryd.pinned (.plain (OpenSpec.upto roundAgreesSpec)) roundAgreesUptoCard

/-- THE SECOND FORM's CARD OF 'quietuslaw28.RoundIsSafe'. -/
def roundIsSafeUptoCard : Claim7 := { stood := { row := roundIsSafeUptoRow, standIns := [], harness := (true, "358ed09d0269388fb4b9efb47af376e14b80665bb884a8cd308b6b62d8bb5224"), looks := false }, kinds := [], alts := [], laidByText := true, laidKinds := [.data], laidTests := true, laidLooks := .later }
def RoundIsSafeUptoCardSaid : Prop := Claim7.holds Tryd.pinned (.plain (OpenSpec.upto roundIsSafeSpec)) roundIsSafeUptoCard
end Rows
end Go.Proofs.YtlmegkgkipjgbaaDoor

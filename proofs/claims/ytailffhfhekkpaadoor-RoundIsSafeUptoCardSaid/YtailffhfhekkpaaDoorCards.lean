/-
  DERIVED. GIVEN WITH THE SEED: THE CARDS: each row of YtailffhfhekkpaaDoorRows.lean that lists a variable, with what it lists TIED to the program's text (the seventh form; the later family's looks); each row that meets fmt, with fmt's text TOLD by the authors' own Lean function (tested against real Go, not proved from fmt's source: count such statements apart). THE CARD IS WHAT COUNTS. Prove the row's statement (the work); the ties are given (YtailffhfhekkpaaDoorTie.lean); close each card by the builder's one call (the guide's Derived/Test/ToyasCard.lean, 'card_holds'). Laid BY PROGRAM, IN A SANDBOX (cutbox-door.mjs). By AI agents, Wed Nov 11 2026. No macro, syntax, notation, axiom, sorry.
-/
import Derived.Test.YtailffhfhekkpaaDoorRows
import GoSem.ClaimSeven
namespace Go.Proofs.YtailffhfhekkpaaDoor
namespace Rows

/-- THE TIED CARD OF 'quietuslaw28.RoundAgrees'. -/
def roundAgreesCard : Claim7 := { stood := { row := roundAgreesRow, standIns := [], harness := (true, "91dfdab79a4a8bae8271d02bd42da546cfce8e23151fb51a181b169046a85dc4"), looks := false }, kinds := [], alts := [], laidByText := true, laidKinds := [.data], laidTests := true, laidLooks := .later }
def RoundAgreesCardSaid : Prop := Claim7.holds Tryd.pinned (.plain (OpenSpec.ofChange roundAgreesSpec)) roundAgreesCard

/-- THE TIED CARD OF 'quietuslaw28.RoundIsSafe'. -/
def roundIsSafeCard : Claim7 := { stood := { row := roundIsSafeRow, standIns := [], harness := (true, "91dfdab79a4a8bae8271d02bd42da546cfce8e23151fb51a181b169046a85dc4"), looks := false }, kinds := [], alts := [], laidByText := true, laidKinds := [.data], laidTests := true, laidLooks := .later }
def RoundIsSafeCardSaid : Prop := Claim7.holds Tryd.pinned (.plain (OpenSpec.ofChange roundIsSafeSpec)) roundIsSafeCard

/-- THE SECOND FORM's CARD OF 'quietuslaw28.RoundAgrees'. -/
def roundAgreesUptoCard : Claim7 := { stood := { row := roundAgreesUptoRow, standIns := [], harness := (true, "91dfdab79a4a8bae8271d02bd42da546cfce8e23151fb51a181b169046a85dc4"), looks := false }, kinds := [], alts := [], laidByText := true, laidKinds := [.data], laidTests := true, laidLooks := .later }
def RoundAgreesUptoCardSaid : Prop := Claim7.holds Tryd.pinned (.plain (OpenSpec.upto roundAgreesSpec)) roundAgreesUptoCard

/-- THE SECOND FORM's CARD OF 'quietuslaw28.RoundIsSafe'. -/
def roundIsSafeUptoCard : Claim7 := { stood := { row := roundIsSafeUptoRow, standIns := [], harness := (true, "91dfdab79a4a8bae8271d02bd42da546cfce8e23151fb51a181b169046a85dc4"), looks := false }, kinds := [], alts := [], laidByText := true, laidKinds := [.data], laidTests := true, laidLooks := .later }
def RoundIsSafeUptoCardSaid : Prop := Claim7.holds Tryd.pinned (.plain (OpenSpec.upto roundIsSafeSpec)) roundIsSafeUptoCard
end Rows
end Go.Proofs.YtailffhfhekkpaaDoor

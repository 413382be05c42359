/-
  DERIVED. GIVEN WITH THE SEED: THE CARDS: each row of YtifaanbnijnbdaaDoorRows.lean that lists a variable, with what it lists TIED to the program's text (the seventh form; the later family's looks); each row that meets fmt, with fmt's text TOLD by the authors' own Lean function (tested against real Go, not proved from fmt's source: count such statements apart). THE CARD IS WHAT COUNTS. Prove the row's statement (the work); the ties are given (YtifaanbnijnbdaaDoorTie.lean); close each card by the builder's one call (the guide's Derived/Test/ToyasCard.lean, 'card_holds'). Laid BY PROGRAM, IN A SANDBOX (cutbox-door.mjs). By AI agents, Wed Nov 11 2026. No macro, syntax, notation, axiom, sorry.
-/
import Derived.Test.YtifaanbnijnbdaaDoorRows
import GoSem.ClaimSeven
namespace Go.Proofs.YtifaanbnijnbdaaDoor
namespace Rows

/-- THE TIED CARD OF 'quietuslaw06.PolyInterpolatesAsSpecified'. -/
def polyInterpolatesAsSpecifiedCard : Claim7 := { stood := { row := polyInterpolatesAsSpecifiedRow, standIns := [], harness := (true, "40e666d64959d74caca27c38223f6447b4884c17f9c2930fbfaea1b56370aaa6"), looks := false }, kinds := [], alts := [], laidByText := true, laidKinds := [.data], laidTests := true, laidLooks := .later }
def PolyInterpolatesAsSpecifiedCardSaid : Prop := Claim7.holds Tryd.pinned (.plain (OpenSpec.ofChange polyInterpolatesAsSpecifiedSpec)) polyInterpolatesAsSpecifiedCard

/-- THE TIED CARD OF 'quietuslaw06.PolyDecodesAsSpecified'. -/
def polyDecodesAsSpecifiedCard : Claim7 := { stood := { row := polyDecodesAsSpecifiedRow, standIns := [], harness := (true, "40e666d64959d74caca27c38223f6447b4884c17f9c2930fbfaea1b56370aaa6"), looks := false }, kinds := [], alts := [], laidByText := true, laidKinds := [.data], laidTests := true, laidLooks := .later }
def PolyDecodesAsSpecifiedCardSaid : Prop := Claim7.holds Tryd.pinned (.plain (OpenSpec.ofChange polyDecodesAsSpecifiedSpec)) polyDecodesAsSpecifiedCard

/-- THE TIED CARD OF 'quietuslaw06.PolyInterpolates'. -/
def polyInterpolatesCard : Claim7 := { stood := { row := polyInterpolatesRow, standIns := [], harness := (true, "40e666d64959d74caca27c38223f6447b4884c17f9c2930fbfaea1b56370aaa6"), looks := false }, kinds := [], alts := [], laidByText := true, laidKinds := [.data], laidTests := true, laidLooks := .later }
def PolyInterpolatesCardSaid : Prop := Claim7.holds Tryd.pinned (.plain (OpenSpec.ofChange polyInterpolatesSpec)) polyInterpolatesCard

/-- THE TIED CARD OF 'quietuslaw06.PolyCorrects'. -/
def polyCorrectsCard : Claim7 := { stood := { row := polyCorrectsRow, standIns := [], harness := (true, "40e666d64959d74caca27c38223f6447b4884c17f9c2930fbfaea1b56370aaa6"), looks := false }, kinds := [], alts := [], laidByText := true, laidKinds := [.data], laidTests := true, laidLooks := .later }
def PolyCorrectsCardSaid : Prop := Claim7.holds Tryd.pinned (.plain (OpenSpec.ofChange polyCorrectsSpec)) polyCorrectsCard

/-- THE TIED CARD OF 'quietuslaw06.PolyRefuses'. -/
def polyRefusesCard : Claim7 := { stood := { row := polyRefusesRow, standIns := [], harness := (true, "40e666d64959d74caca27c38223f6447b4884c17f9c2930fbfaea1b56370aaa6"), looks := false }, kinds := [], alts := [], laidByText := true, laidKinds := [.data], laidTests := true, laidLooks := .later }
def PolyRefusesCardSaid : Prop := Claim7.holds Tryd.pinned (.plain (OpenSpec.ofChange polyRefusesSpec)) polyRefusesCard

/-- THE TIED CARD OF 'quietuslaw06.PolyMatchesSpec'. -/
def polyMatchesSpecCard : Claim7 := { stood := { row := polyMatchesSpecRow, standIns := [], harness := (true, "40e666d64959d74caca27c38223f6447b4884c17f9c2930fbfaea1b56370aaa6"), looks := false }, kinds := [], alts := [], laidByText := true, laidKinds := [.data], laidTests := true, laidLooks := .later }
def PolyMatchesSpecCardSaid : Prop := Claim7.holds Tryd.pinned (.plain (OpenSpec.ofChange polyMatchesSpecSpec)) polyMatchesSpecCard

/-- THE TIED CARD OF 'quietuslaw06.PolyIsARing'. -/
def polyIsARingCard : Claim7 := { stood := { row := polyIsARingRow, standIns := [], harness := (true, "40e666d64959d74caca27c38223f6447b4884c17f9c2930fbfaea1b56370aaa6"), looks := false }, kinds := [], alts := [], laidByText := true, laidKinds := [.data], laidTests := true, laidLooks := .later }
def PolyIsARingCardSaid : Prop := Claim7.holds Tryd.pinned (.plain (OpenSpec.ofChange polyIsARingSpec)) polyIsARingCard

/-- THE SECOND FORM's CARD OF 'quietuslaw06.PolyInterpolatesAsSpecified'. -/
def polyInterpolatesAsSpecifiedUptoCard : Claim7 := { stood := { row := polyInterpolatesAsSpecifiedUptoRow, standIns := [], harness := (true, "40e666d64959d74caca27c38223f6447b4884c17f9c2930fbfaea1b56370aaa6"), looks := false }, kinds := [], alts := [], laidByText := true, laidKinds := [.data], laidTests := true, laidLooks := .later }
def PolyInterpolatesAsSpecifiedUptoCardSaid : Prop := Claim7.holds Tryd.pinned (.plain (OpenSpec.upto polyInterpolatesAsSpecifiedSpec)) polyInterpolatesAsSpecifiedUptoCard

/-- THE SECOND FORM's CARD OF 'quietuslaw06.PolyDecodesAsSpecified'. -/
def polyDecodesAsSpecifiedUptoCard : Claim7 := { stood := { row := polyDecodesAsSpecifiedUptoRow, standIns := [], harness := (true, "40e666d64959d74caca27c38223f6447b4884c17f9c2930fbfaea1b56370aaa6"), looks := false }, kinds := [], alts := [], laidByText := true, laidKinds := [.data], laidTests := true, laidLooks := .later }
def PolyDecodesAsSpecifiedUptoCardSaid : Prop := Claim7.holds Tryd.pinned (.plain (OpenSpec.upto polyDecodesAsSpecifiedSpec)) polyDecodesAsSpecifiedUptoCard

/-- THE SECOND FORM's CARD OF 'quietuslaw06.PolyInterpolates'. -/
def polyInterpolatesUptoCard : Claim7 := { stood := { row := polyInterpolatesUptoRow, standIns := [], harness := (true, "40e666d64959d74caca27c38223f6447b4884c17f9c2930fbfaea1b56370aaa6"), looks := false }, kinds := [], alts := [], laidByText := true, laidKinds := [.data], laidTests := true, laidLooks := .later }
def PolyInterpolatesUptoCardSaid : Prop := Claim7.holds Tryd.pinned (.plain (OpenSpec.upto polyInterpolatesSpec)) polyInterpolatesUptoCard

/-- THE SECOND FORM's CARD OF 'quietuslaw06.PolyCorrects'. -/
def polyCorrectsUptoCard : Claim7 := { stood := { row := polyCorrectsUptoRow, standIns := [], harness := (true, "40e666d64959d74caca27c38223f6447b4884c17f9c2930fbfaea1b56370aaa6"), looks := false }, kinds := [], alts := [], laidByText := true, laidKinds := [.data], laidTests := true, laidLooks := .later }
def PolyCorrectsUptoCardSaid : Prop := Claim7.holds Tryd.pinned (.plain (OpenSpec.upto polyCorrectsSpec)) polyCorrectsUptoCard

/-- THE SECOND FORM's CARD OF 'quietuslaw06.PolyRefuses'. -/
def polyRefusesUptoCard : Claim7 := { stood := { row := polyRefusesUptoRow, standIns := [], harness := (true, "40e666d64959d74caca27c38223f6447b4884c17f9c2930fbfaea1b56370aaa6"), looks := false }, kinds := [], alts := [], laidByText := true, laidKinds := [.data], laidTests := true, laidLooks := .later }
def PolyRefusesUptoCardSaid : Prop := Claim7.holds Tryd.pinned (.plain (OpenSpec.upto polyRefusesSpec)) polyRefusesUptoCard

/-- THE SECOND FORM's CARD OF 'quietuslaw06.PolyMatchesSpec'. -/
def polyMatchesSpecUptoCard : Claim7 := { stood := { row := polyMatchesSpecUptoRow, standIns := [], harness := (true, "40e666d64959d74caca27c38223f6447b4884c17f9c2930fbfaea1b56370aaa6"), looks := false }, kinds := [], alts := [], laidByText := true, laidKinds := [.data], laidTests := true, laidLooks := .later }
def PolyMatchesSpecUptoCardSaid : Prop := Claim7.holds Tryd.pinned (.plain (OpenSpec.upto polyMatchesSpecSpec)) polyMatchesSpecUptoCard

/-- THE SECOND FORM's CARD OF 'quietuslaw06.PolyIsARing'. -/
def polyIsARingUptoCard : Claim7 := { stood := { row := polyIsARingUptoRow, standIns := [], harness := (true, "40e666d64959d74caca27c38223f6447b4884c17f9c2930fbfaea1b56370aaa6"), looks := false }, kinds := [], alts := [], laidByText := true, laidKinds := [.data], laidTests := true, laidLooks := .later }
def PolyIsARingUptoCardSaid : Prop := Claim7.holds Tryd.pinned (.plain (OpenSpec.upto polyIsARingSpec)) polyIsARingUptoCard
end Rows
end Go.Proofs.YtifaanbnijnbdaaDoor

/-
  DERIVED. GIVEN WITH THE SEED: THE CARDS: each row of YtpfehhcljeagoaaDoorRows.lean that lists a variable, with what it lists TIED to the program's text (the seventh form; the later family's looks); each row that meets fmt, with fmt's text TOLD by the authors' own Lean function (tested against real Go, not proved from fmt's source: count such statements apart). THE CARD IS WHAT COUNTS. Prove the row's statement (the work); the ties are given (YtpfehhcljeagoaaDoorTie.lean); close each card by the builder's one call (the guide's Derived/Test/ToyasCard.lean, 'card_holds'). Laid BY PROGRAM, IN A SANDBOX (cutbox-door.mjs). By AI agents, Wed Nov 11 2026. No macro, syntax, notation, axiom, sorry.
-/
import Derived.Test.YtpfehhcljeagoaaDoorRows
import GoSem.ClaimSeven
namespace Go.Proofs.YtpfehhcljeagoaaDoor
namespace Rows

/-- THE TIED CARD OF 'quietuslaw28.RoundDecidesAsSpecified'. -/
def roundDecidesAsSpecifiedCard : Claim7 := { stood := { row := roundDecidesAsSpecifiedRow, standIns := [], harness := (true, "52e69e2242da402306e90123d8c23b8d6b7d7a2df5e42091d9e6ca7aa6730012"), looks := false }, kinds := [], alts := [], laidByText := true, laidKinds := [.data], laidTests := true, laidLooks := .later }
def RoundDecidesAsSpecifiedCardSaid : Prop := Claim7.holds Tryd.pinned (.plain (OpenSpec.ofChange roundDecidesAsSpecifiedSpec)) roundDecidesAsSpecifiedCard

/-- THE SECOND FORM's CARD OF 'quietuslaw28.RoundDecidesAsSpecified'. -/
def roundDecidesAsSpecifiedUptoCard : Claim7 := { stood := { row := roundDecidesAsSpecifiedUptoRow, standIns := [], harness := (true, "52e69e2242da402306e90123d8c23b8d6b7d7a2df5e42091d9e6ca7aa6730012"), looks := false }, kinds := [], alts := [], laidByText := true, laidKinds := [.data], laidTests := true, laidLooks := .later }
def RoundDecidesAsSpecifiedUptoCardSaid : Prop := Claim7.holds Tryd.pinned (.plain (OpenSpec.upto roundDecidesAsSpecifiedSpec)) roundDecidesAsSpecifiedUptoCard
end Rows
end Go.Proofs.YtpfehhcljeagoaaDoor

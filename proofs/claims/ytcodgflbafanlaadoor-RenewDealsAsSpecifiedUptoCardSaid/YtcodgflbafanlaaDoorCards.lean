/-
  DERIVED. GIVEN WITH THE SEED: THE CARDS: each row of YtcodgflbafanlaaDoorRows.lean that lists a variable, with what it lists TIED to the program's text (the seventh form; the later family's looks); each row that meets fmt, with fmt's text TOLD by the authors' own Lean function (tested against real Go, not proved from fmt's source: count such statements apart). THE CARD IS WHAT COUNTS. Prove the row's statement (the work); the ties are given (YtcodgflbafanlaaDoorTie.lean); close each card by the builder's one call (the guide's Derived/Test/ToyasCard.lean, 'card_holds'). Laid BY PROGRAM, IN A SANDBOX (cutbox-door.mjs). By AI agents, Wed Nov 11 2026. No macro, syntax, notation, axiom, sorry.
-/
import Derived.Test.YtcodgflbafanlaaDoorRows
import GoSem.ClaimSeven
namespace Go.Proofs.YtcodgflbafanlaaDoor
namespace Rows

/-- THE TIED CARD OF 'quietuslaw27.RenewDealsAsSpecified'. -/
def renewDealsAsSpecifiedCard : Claim7 := { stood := { row := renewDealsAsSpecifiedRow, standIns := [], harness := (true, "e69b04a8aa8c6e7a4b2eb8824b607b79e42011ed4ceb48db64a9200baf30a73b"), looks := false }, kinds := [], alts := [], laidByText := true, laidKinds := [.data], laidTests := true, laidLooks := .later }
def RenewDealsAsSpecifiedCardSaid : Prop := Claim7.holds Tryd.pinned (.plain (OpenSpec.ofChange renewDealsAsSpecifiedSpec)) renewDealsAsSpecifiedCard

/-- THE SECOND FORM's CARD OF 'quietuslaw27.RenewDealsAsSpecified'. -/
def renewDealsAsSpecifiedUptoCard : Claim7 := { stood := { row := renewDealsAsSpecifiedUptoRow, standIns := [], harness := (true, "e69b04a8aa8c6e7a4b2eb8824b607b79e42011ed4ceb48db64a9200baf30a73b"), looks := false }, kinds := [], alts := [], laidByText := true, laidKinds := [.data], laidTests := true, laidLooks := .later }
def RenewDealsAsSpecifiedUptoCardSaid : Prop := Claim7.holds Tryd.pinned (.plain (OpenSpec.upto renewDealsAsSpecifiedSpec)) renewDealsAsSpecifiedUptoCard
end Rows
end Go.Proofs.YtcodgflbafanlaaDoor

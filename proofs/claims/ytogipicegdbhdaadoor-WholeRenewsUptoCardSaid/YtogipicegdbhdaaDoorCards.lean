/-
  DERIVED. GIVEN WITH THE SEED: THE CARDS: each row of YtogipicegdbhdaaDoorRows.lean that lists a variable, with what it lists TIED to the program's text (the seventh form; the later family's looks); each row that meets fmt, with fmt's text TOLD by the authors' own Lean function (tested against real Go, not proved from fmt's source: count such statements apart). THE CARD IS WHAT COUNTS. Prove the row's statement (the work); the ties are given (YtogipicegdbhdaaDoorTie.lean); close each card by the builder's one call (the guide's Derived/Test/ToyasCard.lean, 'card_holds'). Laid BY PROGRAM, IN A SANDBOX (cutbox-door.mjs). By AI agents, Wed Nov 11 2026. No macro, syntax, notation, axiom, sorry.
-/
import Derived.Test.YtogipicegdbhdaaDoorRows
import GoSem.ClaimSeven
namespace Go.Proofs.YtogipicegdbhdaaDoor
namespace Rows

/-- THE TIED CARD OF 'quietustop.WholeHides'. -/
def wholeHidesCard : Claim7 := { stood := { row := wholeHidesRow, standIns := [], harness := (true, "792d71d94f56798ab6435e217ce405782f7317d550765317755df1c7ae06a151"), looks := false }, kinds := [], alts := [], laidByText := true, laidKinds := [.data], laidTests := true, laidLooks := .later }
def WholeHidesCardSaid : Prop := Claim7.holds Tryd.pinned (.plain (OpenSpec.ofChange wholeHidesSpec)) wholeHidesCard

/-- THE TIED CARD OF 'quietustop.WholeRenews'. -/
def wholeRenewsCard : Claim7 := { stood := { row := wholeRenewsRow, standIns := [], harness := (true, "792d71d94f56798ab6435e217ce405782f7317d550765317755df1c7ae06a151"), looks := false }, kinds := [], alts := [], laidByText := true, laidKinds := [.data], laidTests := true, laidLooks := .later }
def WholeRenewsCardSaid : Prop := Claim7.holds Tryd.pinned (.plain (OpenSpec.ofChange wholeRenewsSpec)) wholeRenewsCard

/-- THE TIED CARD OF 'quietuslaw29.CalendarHides'. -/
def calendarHidesCard : Claim7 := { stood := { row := calendarHidesRow, standIns := [], harness := (true, "792d71d94f56798ab6435e217ce405782f7317d550765317755df1c7ae06a151"), looks := false }, kinds := [], alts := [], laidByText := true, laidKinds := [.data], laidTests := true, laidLooks := .later }
def CalendarHidesCardSaid : Prop := Claim7.holds Tryd.pinned (.plain (OpenSpec.ofChange calendarHidesSpec)) calendarHidesCard

/-- THE SECOND FORM's CARD OF 'quietustop.WholeHides'. -/
def wholeHidesUptoCard : Claim7 := { stood := { row := wholeHidesUptoRow, standIns := [], harness := (true, "792d71d94f56798ab6435e217ce405782f7317d550765317755df1c7ae06a151"), looks := false }, kinds := [], alts := [], laidByText := true, laidKinds := [.data], laidTests := true, laidLooks := .later }
def WholeHidesUptoCardSaid : Prop := Claim7.holds Tryd.pinned (.plain (OpenSpec.upto wholeHidesSpec)) wholeHidesUptoCard

/-- THE SECOND FORM's CARD OF 'quietustop.WholeRenews'. -/
def wholeRenewsUptoCard : Claim7 := { stood := { row := wholeRenewsUptoRow, standIns := [], harness := (true, "792d71d94f56798ab6435e217ce405782f7317d550765317755df1c7ae06a151"), looks := false }, kinds := [], alts := [], laidByText := true, laidKinds := [.data], laidTests := true, laidLooks := .later }
def WholeRenewsUptoCardSaid : Prop := Claim7.holds Tryd.pinned (.plain (OpenSpec.upto wholeRenewsSpec)) wholeRenewsUptoCard

/-- THE SECOND FORM's CARD OF 'quietuslaw29.CalendarHides'. -/
def calendarHidesUptoCard : Claim7 := { stood := { row := calendarHidesUptoRow, standIns := [], harness := (true, "792d71d94f56798ab6435e217ce405782f7317d550765317755df1c7ae06a151"), looks := false }, kinds := [], alts := [], laidByText := true, laidKinds := [.data], laidTests := true, laidLooks := .later }
def CalendarHidesUptoCardSaid : Prop := Claim7.holds Tryd.pinned (.plain (OpenSpec.upto calendarHidesSpec)) calendarHidesUptoCard
end Rows
end Go.Proofs.YtogipicegdbhdaaDoor

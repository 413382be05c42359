/-
  NARROWER THAN 'FOR EVERY INPUT', by the rows' own cells (each row's printed sentence says how): WholeHides: laid · WholeRenews: laid · CalendarHides: laid.
  DERIVED. THE GIVEN ROWS OF THIS SEAT. 3 by the template 'for every input the law returns true; each argument reads behind the call as it read before'; 0 by the template 'total and deterministic' (their statements: YtogipicegdbhdaaDoorTotals.lean).
  GIVEN WITH THE SEED: the statements are not yours to turn. If you find one false, say at which input.
  Laid BY PROGRAM, IN A SANDBOX (cutbox-rows.mjs): the forced cells as the released guide's own fill.sh prints them over the translation cce71c89371ee69a… (all of the seat's roots in one cut). By AI agents, Wed Nov 11 2026. No macro, syntax, notation, axiom, sorry.
-/
import Derived.Test.YtogipicegdbhdaaDoorChecked
import GoSem.Claim
import GoSem.ClaimJoined
import GoSem.ClaimMapViews
import Derived.JoinedTies
import Derived.KernelRfl
namespace Go.Proofs.YtogipicegdbhdaaDoor
/- THE CELL 'sum', in the pinned program and in every row, IS THE sha256 OF THE DUMP (.gsa) THAT YtogipicegdbhdaaDoorProg.lean LOADS. Nothing in Lean hashes anything: it is a label: what it is worth is what the hold of that sum in a sandbox is worth. -/
noncomputable def Tryd.pinned : Pinned := { name := "ytogipicegdbhdaadoor", sum := "cce71c89371ee69a86a8785a56d3c8015e290c2179de779804ee1ef6ae1bf10e", checked := Tryd.checked }
namespace Rows
def none {H : Type} : Left H := { results := [], args := [] }

/- WHAT THE LISTED PACKAGE-LEVEL VARIABLES READ AS WHEN THE CALL BEGINS. Each datum BY PROGRAM (the guide's laid-datum.mjs) off the statement by which the dump's own 'gosem.cut.vars' lays the variable. In a bare row this is a premise. The card (YtogipicegdbhdaaDoorCards.lean) ties it to the program's text. -/
def laid_quietus_gf_high {H : Type} : DataW H := .agg [.lit (.int .u8 0), .lit (.int .u8 29), .lit (.int .u8 58), .lit (.int .u8 39), .lit (.int .u8 116), .lit (.int .u8 105), .lit (.int .u8 78), .lit (.int .u8 83), .lit (.int .u8 232), .lit (.int .u8 245), .lit (.int .u8 210), .lit (.int .u8 207), .lit (.int .u8 156), .lit (.int .u8 129), .lit (.int .u8 166), .lit (.int .u8 187)]

/-- 'quietustop.WholeHides': WHATEVER THE INPUT: true; the input reads as it did. -/
def wholeHidesSpec : ChangeSpec := { name := "wholeHides", fn := fun _ => fun
  | [d1, d2, d3, d4] => { results := [.lit (.bool true)], args := [d1, d2, d3, d4] }
  | _ => none }
def wholeHidesRow : OpenClaim := { program := "ytogipicegdbhdaadoor", sum := "cce71c89371ee69a86a8785a56d3c8015e290c2179de779804ee1ef6ae1bf10e", func := "quietus/quietustop.WholeHides", spec := "wholeHides", unfollowed := true, recurses := true, named := ["quietus/gf.high"], apart := false, laid := [("quietus/gf.high", laid_quietus_gf_high)] }
def WholeHidesSaid : Prop := wholeHidesRow.holds Tryd.pinned (OpenSpec.ofChange wholeHidesSpec)

/-- ITS FALSE NEIGHBOUR: 'it returns false'. Refute it at one input. -/
def wholeHidesWrong : ChangeSpec := { name := "wholeHides", fn := fun _ => fun
  | [d1, d2, d3, d4] => { results := [.lit (.bool false)], args := [d1, d2, d3, d4] }
  | _ => none }
def WholeHidesWrongFalsely : Prop := wholeHidesRow.holds Tryd.pinned (OpenSpec.ofChange wholeHidesWrong)

/-- 'quietustop.WholeRenews': WHATEVER THE INPUT: true; the input reads as it did. -/
def wholeRenewsSpec : ChangeSpec := { name := "wholeRenews", fn := fun _ => fun
  | [d1, d2, d3, d4, d5, d6] => { results := [.lit (.bool true)], args := [d1, d2, d3, d4, d5, d6] }
  | _ => none }
def wholeRenewsRow : OpenClaim := { program := "ytogipicegdbhdaadoor", sum := "cce71c89371ee69a86a8785a56d3c8015e290c2179de779804ee1ef6ae1bf10e", func := "quietus/quietustop.WholeRenews", spec := "wholeRenews", unfollowed := true, recurses := true, named := ["quietus/gf.high"], apart := false, laid := [("quietus/gf.high", laid_quietus_gf_high)] }
def WholeRenewsSaid : Prop := wholeRenewsRow.holds Tryd.pinned (OpenSpec.ofChange wholeRenewsSpec)

/-- ITS FALSE NEIGHBOUR: 'it returns false'. Refute it at one input. -/
def wholeRenewsWrong : ChangeSpec := { name := "wholeRenews", fn := fun _ => fun
  | [d1, d2, d3, d4, d5, d6] => { results := [.lit (.bool false)], args := [d1, d2, d3, d4, d5, d6] }
  | _ => none }
def WholeRenewsWrongFalsely : Prop := wholeRenewsRow.holds Tryd.pinned (OpenSpec.ofChange wholeRenewsWrong)

/-- 'quietuslaw29.CalendarHides': WHATEVER THE INPUT: true; the input reads as it did. -/
def calendarHidesSpec : ChangeSpec := { name := "calendarHides", fn := fun _ => fun
  | [d1, d2, d3] => { results := [.lit (.bool true)], args := [d1, d2, d3] }
  | _ => none }
def calendarHidesRow : OpenClaim := { program := "ytogipicegdbhdaadoor", sum := "cce71c89371ee69a86a8785a56d3c8015e290c2179de779804ee1ef6ae1bf10e", func := "quietus/quietuslaw29.CalendarHides", spec := "calendarHides", unfollowed := true, recurses := true, named := ["quietus/gf.high"], apart := false, laid := [("quietus/gf.high", laid_quietus_gf_high)] }
def CalendarHidesSaid : Prop := calendarHidesRow.holds Tryd.pinned (OpenSpec.ofChange calendarHidesSpec)

/-- ITS FALSE NEIGHBOUR: 'it returns false'. Refute it at one input. -/
def calendarHidesWrong : ChangeSpec := { name := "calendarHides", fn := fun _ => fun
  | [d1, d2, d3] => { results := [.lit (.bool false)], args := [d1, d2, d3] }
  | _ => none }
def CalendarHidesWrongFalsely : Prop := calendarHidesRow.holds Tryd.pinned (OpenSpec.ofChange calendarHidesWrong)

/- THE SECOND FORM. 'bulk': how many values and letters a reading holds, each counted each time it is reached (what is shared counts as often as it is met; a slice's spare places count too). A statement '..UptoSaid' is the law's where the arguments, and the package variables that the reading takes, are together of bulk at most 1048576: NARROWER than '..Said'. Prove '..Said' where nothing that the law and all that it calls make is longer than what came in: it says more and counts as full. Else prove '..UptoSaid'. A law counts once. -/
mutual
def uptoBulk {H : Type} : DataW H → Nat
  | .lit (.string bytes) => bytes.length + 1
  | .lit _ => 1
  | .nil => 1
  | .ptr d => uptoBulk d + 1
  | .slice elems spare => uptoBulkAll elems + uptoBulkAll spare + 1
  | .agg parts => uptoBulkAll parts + 1
  | .iface _ d => uptoBulk d + 1
  | .map entries => uptoBulkEntries entries + 1
  | .held _ => 1
def uptoBulkAll {H : Type} : List (DataW H) → Nat
  | [] => 0
  | d :: r => uptoBulk d + uptoBulkAll r
def uptoBulkEntries {H : Type} : List (Lit × DataW H) → Nat
  | [] => 0
  | x :: r => uptoBulkEntry x + uptoBulkEntries r
def uptoBulkEntry {H : Type} : Lit × DataW H → Nat
  | (.string bytes, d) => bytes.length + uptoBulk d + 1
  | (_, d) => uptoBulk d + 1
 end
def uptoSmall : (H : Type) → List (DataW H) → Bool := fun _ ds => decide (uptoBulkAll ds ≤ 1048576)
def OpenSpec.upto (s : _root_.Go.ChangeSpec) : _root_.Go.OpenSpec := { _root_.Go.OpenSpec.ofChange s with cond := some uptoSmall }

/-- 'quietustop.WholeHides', WHERE WHAT IT READS IS OF BULK AT MOST 1048576: true; the input reads as it did. -/
def wholeHidesUptoRow : OpenClaim := { program := "ytogipicegdbhdaadoor", sum := "cce71c89371ee69a86a8785a56d3c8015e290c2179de779804ee1ef6ae1bf10e", func := "quietus/quietustop.WholeHides", spec := "wholeHides", unfollowed := true, recurses := true, named := ["quietus/gf.high"], apart := false, laid := [("quietus/gf.high", laid_quietus_gf_high)], narrowed := true }
def WholeHidesUptoSaid : Prop := wholeHidesUptoRow.holds Tryd.pinned (OpenSpec.upto wholeHidesSpec)

/-- 'quietustop.WholeRenews', WHERE WHAT IT READS IS OF BULK AT MOST 1048576: true; the input reads as it did. -/
def wholeRenewsUptoRow : OpenClaim := { program := "ytogipicegdbhdaadoor", sum := "cce71c89371ee69a86a8785a56d3c8015e290c2179de779804ee1ef6ae1bf10e", func := "quietus/quietustop.WholeRenews", spec := "wholeRenews", unfollowed := true, recurses := true, named := ["quietus/gf.high"], apart := false, laid := [("quietus/gf.high", laid_quietus_gf_high)], narrowed := true }
def WholeRenewsUptoSaid : Prop := wholeRenewsUptoRow.holds Tryd.pinned (OpenSpec.upto wholeRenewsSpec)

/-- 'quietuslaw29.CalendarHides', WHERE WHAT IT READS IS OF BULK AT MOST 1048576: true; the input reads as it did. -/
def calendarHidesUptoRow : OpenClaim := { program := "ytogipicegdbhdaadoor", sum := "cce71c89371ee69a86a8785a56d3c8015e290c2179de779804ee1ef6ae1bf10e", func := "quietus/quietuslaw29.CalendarHides", spec := "calendarHides", unfollowed := true, recurses := true, named := ["quietus/gf.high"], apart := false, laid := [("quietus/gf.high", laid_quietus_gf_high)], narrowed := true }
def CalendarHidesUptoSaid : Prop := calendarHidesUptoRow.holds Tryd.pinned (OpenSpec.upto calendarHidesSpec)

end Rows
end Go.Proofs.YtogipicegdbhdaaDoor

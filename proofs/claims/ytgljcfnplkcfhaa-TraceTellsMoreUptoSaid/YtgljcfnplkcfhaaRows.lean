/-
  No cell of these rows narrows 'for every input' (looked for: loops, veiled, ifaces, maps, wideKeys, modest, calm, conditions, laid).
  DERIVED. THE GIVEN ROWS OF THIS SEAT. 13 by the template 'for every input the law returns true; each argument reads behind the call as it read before'; 0 by the template 'total and deterministic' (their statements: YtgljcfnplkcfhaaTotals.lean).
  GIVEN WITH THE SEED: the statements are not yours to turn. If you find one false, say at which input.
  Laid BY PROGRAM, IN A SANDBOX (cutbox-rows.mjs): the forced cells as the released guide's own fill.sh prints them over the translation 97f725d8a8d23347… (all of the seat's roots in one cut). By AI agents, Wed Nov 11 2026. No macro, syntax, notation, axiom, sorry.
-/
import Derived.Test.YtgljcfnplkcfhaaChecked
import GoSem.Claim
import GoSem.ClaimJoined
import GoSem.ClaimMapViews
import Derived.JoinedTies
import Derived.KernelRfl
namespace Go.Proofs.Ytgljcfnplkcfhaa
/- THE CELL 'sum', in the pinned program and in every row, IS THE sha256 OF THE DUMP (.gsa) THAT YtgljcfnplkcfhaaProg.lean LOADS. Nothing in Lean hashes anything: it is a label: what it is worth is what the hold of that sum in a sandbox is worth. -/
noncomputable def Try.pinned : Pinned := { name := "ytgljcfnplkcfhaa", sum := "97f725d8a8d2334778001569c96e8e0f6127b35f415a9fa3be239091e4ab231c", checked := Try.checked }
namespace Rows
def none {H : Type} : Left H := { results := [], args := [] }

/-- 'quietuslaw29.CalendarSpansAsSpecified': WHATEVER THE INPUT: true; the input reads as it did. -/
def calendarSpansAsSpecifiedSpec : ChangeSpec := { name := "calendarSpansAsSpecified", fn := fun _ => fun
  | [d1, d2] => { results := [.lit (.bool true)], args := [d1, d2] }
  | _ => none }
def calendarSpansAsSpecifiedRow : OpenClaim := { program := "ytgljcfnplkcfhaa", sum := "97f725d8a8d2334778001569c96e8e0f6127b35f415a9fa3be239091e4ab231c", func := "quietus/quietuslaw29.CalendarSpansAsSpecified", spec := "calendarSpansAsSpecified", unfollowed := true, recurses := true, apart := false }
def CalendarSpansAsSpecifiedSaid : Prop := calendarSpansAsSpecifiedRow.holds Try.pinned (OpenSpec.ofChange calendarSpansAsSpecifiedSpec)

/-- ITS FALSE NEIGHBOUR: 'it returns false'. Refute it at one input. -/
def calendarSpansAsSpecifiedWrong : ChangeSpec := { name := "calendarSpansAsSpecified", fn := fun _ => fun
  | [d1, d2] => { results := [.lit (.bool false)], args := [d1, d2] }
  | _ => none }
def CalendarSpansAsSpecifiedWrongFalsely : Prop := calendarSpansAsSpecifiedRow.holds Try.pinned (OpenSpec.ofChange calendarSpansAsSpecifiedWrong)

/-- 'quietuslaw29.CalendarTellsAsSpecified': WHATEVER THE INPUT: true; the input reads as it did. -/
def calendarTellsAsSpecifiedSpec : ChangeSpec := { name := "calendarTellsAsSpecified", fn := fun _ => fun
  | [d1, d2, d3] => { results := [.lit (.bool true)], args := [d1, d2, d3] }
  | _ => none }
def calendarTellsAsSpecifiedRow : OpenClaim := { program := "ytgljcfnplkcfhaa", sum := "97f725d8a8d2334778001569c96e8e0f6127b35f415a9fa3be239091e4ab231c", func := "quietus/quietuslaw29.CalendarTellsAsSpecified", spec := "calendarTellsAsSpecified", unfollowed := true, recurses := true, apart := false }
def CalendarTellsAsSpecifiedSaid : Prop := calendarTellsAsSpecifiedRow.holds Try.pinned (OpenSpec.ofChange calendarTellsAsSpecifiedSpec)

/-- ITS FALSE NEIGHBOUR: 'it returns false'. Refute it at one input. -/
def calendarTellsAsSpecifiedWrong : ChangeSpec := { name := "calendarTellsAsSpecified", fn := fun _ => fun
  | [d1, d2, d3] => { results := [.lit (.bool false)], args := [d1, d2, d3] }
  | _ => none }
def CalendarTellsAsSpecifiedWrongFalsely : Prop := calendarTellsAsSpecifiedRow.holds Try.pinned (OpenSpec.ofChange calendarTellsAsSpecifiedWrong)

/-- 'quietuslaw29.CalendarLooksAsSpecified': WHATEVER THE INPUT: true; the input reads as it did. -/
def calendarLooksAsSpecifiedSpec : ChangeSpec := { name := "calendarLooksAsSpecified", fn := fun _ => fun
  | [d1, d2, d3] => { results := [.lit (.bool true)], args := [d1, d2, d3] }
  | _ => none }
def calendarLooksAsSpecifiedRow : OpenClaim := { program := "ytgljcfnplkcfhaa", sum := "97f725d8a8d2334778001569c96e8e0f6127b35f415a9fa3be239091e4ab231c", func := "quietus/quietuslaw29.CalendarLooksAsSpecified", spec := "calendarLooksAsSpecified", unfollowed := true, recurses := true, apart := false }
def CalendarLooksAsSpecifiedSaid : Prop := calendarLooksAsSpecifiedRow.holds Try.pinned (OpenSpec.ofChange calendarLooksAsSpecifiedSpec)

/-- ITS FALSE NEIGHBOUR: 'it returns false'. Refute it at one input. -/
def calendarLooksAsSpecifiedWrong : ChangeSpec := { name := "calendarLooksAsSpecified", fn := fun _ => fun
  | [d1, d2, d3] => { results := [.lit (.bool false)], args := [d1, d2, d3] }
  | _ => none }
def CalendarLooksAsSpecifiedWrongFalsely : Prop := calendarLooksAsSpecifiedRow.holds Try.pinned (OpenSpec.ofChange calendarLooksAsSpecifiedWrong)

/-- 'quietuslaw29.CalendarCoversTicks': WHATEVER THE INPUT: true; the input reads as it did. -/
def calendarCoversTicksSpec : ChangeSpec := { name := "calendarCoversTicks", fn := fun _ => fun
  | [d1, d2] => { results := [.lit (.bool true)], args := [d1, d2] }
  | _ => none }
def calendarCoversTicksRow : OpenClaim := { program := "ytgljcfnplkcfhaa", sum := "97f725d8a8d2334778001569c96e8e0f6127b35f415a9fa3be239091e4ab231c", func := "quietus/quietuslaw29.CalendarCoversTicks", spec := "calendarCoversTicks", unfollowed := true, recurses := true, apart := false }
def CalendarCoversTicksSaid : Prop := calendarCoversTicksRow.holds Try.pinned (OpenSpec.ofChange calendarCoversTicksSpec)

/-- ITS FALSE NEIGHBOUR: 'it returns false'. Refute it at one input. -/
def calendarCoversTicksWrong : ChangeSpec := { name := "calendarCoversTicks", fn := fun _ => fun
  | [d1, d2] => { results := [.lit (.bool false)], args := [d1, d2] }
  | _ => none }
def CalendarCoversTicksWrongFalsely : Prop := calendarCoversTicksRow.holds Try.pinned (OpenSpec.ofChange calendarCoversTicksWrong)

/-- 'quietuslaw29.CalendarSafeIsExact': WHATEVER THE INPUT: true; the input reads as it did. -/
def calendarSafeIsExactSpec : ChangeSpec := { name := "calendarSafeIsExact", fn := fun _ => fun
  | [d1, d2, d3] => { results := [.lit (.bool true)], args := [d1, d2, d3] }
  | _ => none }
def calendarSafeIsExactRow : OpenClaim := { program := "ytgljcfnplkcfhaa", sum := "97f725d8a8d2334778001569c96e8e0f6127b35f415a9fa3be239091e4ab231c", func := "quietus/quietuslaw29.CalendarSafeIsExact", spec := "calendarSafeIsExact", unfollowed := true, recurses := true, apart := false }
def CalendarSafeIsExactSaid : Prop := calendarSafeIsExactRow.holds Try.pinned (OpenSpec.ofChange calendarSafeIsExactSpec)

/-- ITS FALSE NEIGHBOUR: 'it returns false'. Refute it at one input. -/
def calendarSafeIsExactWrong : ChangeSpec := { name := "calendarSafeIsExact", fn := fun _ => fun
  | [d1, d2, d3] => { results := [.lit (.bool false)], args := [d1, d2, d3] }
  | _ => none }
def CalendarSafeIsExactWrongFalsely : Prop := calendarSafeIsExactRow.holds Try.pinned (OpenSpec.ofChange calendarSafeIsExactWrong)

/-- 'quietuslaw29.CalendarLeastIsLeast': WHATEVER THE INPUT: true; the input reads as it did. -/
def calendarLeastIsLeastSpec : ChangeSpec := { name := "calendarLeastIsLeast", fn := fun _ => fun
  | [d1, d2, d3] => { results := [.lit (.bool true)], args := [d1, d2, d3] }
  | _ => none }
def calendarLeastIsLeastRow : OpenClaim := { program := "ytgljcfnplkcfhaa", sum := "97f725d8a8d2334778001569c96e8e0f6127b35f415a9fa3be239091e4ab231c", func := "quietus/quietuslaw29.CalendarLeastIsLeast", spec := "calendarLeastIsLeast", unfollowed := true, recurses := true, apart := false }
def CalendarLeastIsLeastSaid : Prop := calendarLeastIsLeastRow.holds Try.pinned (OpenSpec.ofChange calendarLeastIsLeastSpec)

/-- ITS FALSE NEIGHBOUR: 'it returns false'. Refute it at one input. -/
def calendarLeastIsLeastWrong : ChangeSpec := { name := "calendarLeastIsLeast", fn := fun _ => fun
  | [d1, d2, d3] => { results := [.lit (.bool false)], args := [d1, d2, d3] }
  | _ => none }
def CalendarLeastIsLeastWrongFalsely : Prop := calendarLeastIsLeastRow.holds Try.pinned (OpenSpec.ofChange calendarLeastIsLeastWrong)

/-- 'quietuslaw29.CalendarExtends': WHATEVER THE INPUT: true; the input reads as it did. -/
def calendarExtendsSpec : ChangeSpec := { name := "calendarExtends", fn := fun _ => fun
  | [d1, d2, d3] => { results := [.lit (.bool true)], args := [d1, d2, d3] }
  | _ => none }
def calendarExtendsRow : OpenClaim := { program := "ytgljcfnplkcfhaa", sum := "97f725d8a8d2334778001569c96e8e0f6127b35f415a9fa3be239091e4ab231c", func := "quietus/quietuslaw29.CalendarExtends", spec := "calendarExtends", unfollowed := true, recurses := true, apart := false }
def CalendarExtendsSaid : Prop := calendarExtendsRow.holds Try.pinned (OpenSpec.ofChange calendarExtendsSpec)

/-- ITS FALSE NEIGHBOUR: 'it returns false'. Refute it at one input. -/
def calendarExtendsWrong : ChangeSpec := { name := "calendarExtends", fn := fun _ => fun
  | [d1, d2, d3] => { results := [.lit (.bool false)], args := [d1, d2, d3] }
  | _ => none }
def CalendarExtendsWrongFalsely : Prop := calendarExtendsRow.holds Try.pinned (OpenSpec.ofChange calendarExtendsWrong)

/-- 'quietuslaw38.TraceKeepsAsSpecified': WHATEVER THE INPUT: true; the input reads as it did. -/
def traceKeepsAsSpecifiedSpec : ChangeSpec := { name := "traceKeepsAsSpecified", fn := fun _ => fun
  | [d1, d2, d3] => { results := [.lit (.bool true)], args := [d1, d2, d3] }
  | _ => none }
def traceKeepsAsSpecifiedRow : OpenClaim := { program := "ytgljcfnplkcfhaa", sum := "97f725d8a8d2334778001569c96e8e0f6127b35f415a9fa3be239091e4ab231c", func := "quietus/quietuslaw38.TraceKeepsAsSpecified", spec := "traceKeepsAsSpecified", unfollowed := true, recurses := true, apart := false }
def TraceKeepsAsSpecifiedSaid : Prop := traceKeepsAsSpecifiedRow.holds Try.pinned (OpenSpec.ofChange traceKeepsAsSpecifiedSpec)

/-- ITS FALSE NEIGHBOUR: 'it returns false'. Refute it at one input. -/
def traceKeepsAsSpecifiedWrong : ChangeSpec := { name := "traceKeepsAsSpecified", fn := fun _ => fun
  | [d1, d2, d3] => { results := [.lit (.bool false)], args := [d1, d2, d3] }
  | _ => none }
def TraceKeepsAsSpecifiedWrongFalsely : Prop := traceKeepsAsSpecifiedRow.holds Try.pinned (OpenSpec.ofChange traceKeepsAsSpecifiedWrong)

/-- 'quietuslaw38.TraceSeesAsSpecified': WHATEVER THE INPUT: true; the input reads as it did. -/
def traceSeesAsSpecifiedSpec : ChangeSpec := { name := "traceSeesAsSpecified", fn := fun _ => fun
  | [d1, d2, d3] => { results := [.lit (.bool true)], args := [d1, d2, d3] }
  | _ => none }
def traceSeesAsSpecifiedRow : OpenClaim := { program := "ytgljcfnplkcfhaa", sum := "97f725d8a8d2334778001569c96e8e0f6127b35f415a9fa3be239091e4ab231c", func := "quietus/quietuslaw38.TraceSeesAsSpecified", spec := "traceSeesAsSpecified", unfollowed := true, recurses := true, apart := false }
def TraceSeesAsSpecifiedSaid : Prop := traceSeesAsSpecifiedRow.holds Try.pinned (OpenSpec.ofChange traceSeesAsSpecifiedSpec)

/-- ITS FALSE NEIGHBOUR: 'it returns false'. Refute it at one input. -/
def traceSeesAsSpecifiedWrong : ChangeSpec := { name := "traceSeesAsSpecified", fn := fun _ => fun
  | [d1, d2, d3] => { results := [.lit (.bool false)], args := [d1, d2, d3] }
  | _ => none }
def TraceSeesAsSpecifiedWrongFalsely : Prop := traceSeesAsSpecifiedRow.holds Try.pinned (OpenSpec.ofChange traceSeesAsSpecifiedWrong)

/-- 'quietuslaw38.TraceFollowsDerivations': WHATEVER THE INPUT: true; the input reads as it did. -/
def traceFollowsDerivationsSpec : ChangeSpec := { name := "traceFollowsDerivations", fn := fun _ => fun
  | [d] => { results := [.lit (.bool true)], args := [d] }
  | _ => none }
def traceFollowsDerivationsRow : OpenClaim := { program := "ytgljcfnplkcfhaa", sum := "97f725d8a8d2334778001569c96e8e0f6127b35f415a9fa3be239091e4ab231c", func := "quietus/quietuslaw38.TraceFollowsDerivations", spec := "traceFollowsDerivations", unfollowed := true, recurses := true, apart := false }
def TraceFollowsDerivationsSaid : Prop := traceFollowsDerivationsRow.holds Try.pinned (OpenSpec.ofChange traceFollowsDerivationsSpec)

/-- ITS FALSE NEIGHBOUR: 'it returns false'. Refute it at one input. -/
def traceFollowsDerivationsWrong : ChangeSpec := { name := "traceFollowsDerivations", fn := fun _ => fun
  | [d] => { results := [.lit (.bool false)], args := [d] }
  | _ => none }
def TraceFollowsDerivationsWrongFalsely : Prop := traceFollowsDerivationsRow.holds Try.pinned (OpenSpec.ofChange traceFollowsDerivationsWrong)

/-- 'quietuslaw38.TracePurges': WHATEVER THE INPUT: true; the input reads as it did. -/
def tracePurgesSpec : ChangeSpec := { name := "tracePurges", fn := fun _ => fun
  | [d1, d2, d3] => { results := [.lit (.bool true)], args := [d1, d2, d3] }
  | _ => none }
def tracePurgesRow : OpenClaim := { program := "ytgljcfnplkcfhaa", sum := "97f725d8a8d2334778001569c96e8e0f6127b35f415a9fa3be239091e4ab231c", func := "quietus/quietuslaw38.TracePurges", spec := "tracePurges", unfollowed := true, recurses := true, apart := false }
def TracePurgesSaid : Prop := tracePurgesRow.holds Try.pinned (OpenSpec.ofChange tracePurgesSpec)

/-- ITS FALSE NEIGHBOUR: 'it returns false'. Refute it at one input. -/
def tracePurgesWrong : ChangeSpec := { name := "tracePurges", fn := fun _ => fun
  | [d1, d2, d3] => { results := [.lit (.bool false)], args := [d1, d2, d3] }
  | _ => none }
def TracePurgesWrongFalsely : Prop := tracePurgesRow.holds Try.pinned (OpenSpec.ofChange tracePurgesWrong)

/-- 'quietuslaw38.TraceTellsMore': WHATEVER THE INPUT: true; the input reads as it did. -/
def traceTellsMoreSpec : ChangeSpec := { name := "traceTellsMore", fn := fun _ => fun
  | [d1, d2, d3] => { results := [.lit (.bool true)], args := [d1, d2, d3] }
  | _ => none }
def traceTellsMoreRow : OpenClaim := { program := "ytgljcfnplkcfhaa", sum := "97f725d8a8d2334778001569c96e8e0f6127b35f415a9fa3be239091e4ab231c", func := "quietus/quietuslaw38.TraceTellsMore", spec := "traceTellsMore", unfollowed := true, recurses := true, apart := false }
def TraceTellsMoreSaid : Prop := traceTellsMoreRow.holds Try.pinned (OpenSpec.ofChange traceTellsMoreSpec)

/-- ITS FALSE NEIGHBOUR: 'it returns false'. Refute it at one input. -/
def traceTellsMoreWrong : ChangeSpec := { name := "traceTellsMore", fn := fun _ => fun
  | [d1, d2, d3] => { results := [.lit (.bool false)], args := [d1, d2, d3] }
  | _ => none }
def TraceTellsMoreWrongFalsely : Prop := traceTellsMoreRow.holds Try.pinned (OpenSpec.ofChange traceTellsMoreWrong)

/-- 'quietuslaw38.TraceFollowsCalendar': WHATEVER THE INPUT: true; the input reads as it did. -/
def traceFollowsCalendarSpec : ChangeSpec := { name := "traceFollowsCalendar", fn := fun _ => fun
  | [d1, d2, d3] => { results := [.lit (.bool true)], args := [d1, d2, d3] }
  | _ => none }
def traceFollowsCalendarRow : OpenClaim := { program := "ytgljcfnplkcfhaa", sum := "97f725d8a8d2334778001569c96e8e0f6127b35f415a9fa3be239091e4ab231c", func := "quietus/quietuslaw38.TraceFollowsCalendar", spec := "traceFollowsCalendar", unfollowed := true, recurses := true, apart := false }
def TraceFollowsCalendarSaid : Prop := traceFollowsCalendarRow.holds Try.pinned (OpenSpec.ofChange traceFollowsCalendarSpec)

/-- ITS FALSE NEIGHBOUR: 'it returns false'. Refute it at one input. -/
def traceFollowsCalendarWrong : ChangeSpec := { name := "traceFollowsCalendar", fn := fun _ => fun
  | [d1, d2, d3] => { results := [.lit (.bool false)], args := [d1, d2, d3] }
  | _ => none }
def TraceFollowsCalendarWrongFalsely : Prop := traceFollowsCalendarRow.holds Try.pinned (OpenSpec.ofChange traceFollowsCalendarWrong)

/- THE SECOND FORM. 'bulk': how many values and letters a reading holds, each counted each time it is reached (what is shared counts as often as it is met; a slice's spare places count too). A statement '..UptoSaid' is the law's where the arguments, and the package variables that the reading takes, are together of bulk at most 1048576: NARROWER than '..Said'. Prove '..Said' where nothing that the law and all that it calls make is longer than what came in: it says more and counts as full. Else prove '..UptoSaid'. A law counts once. -/
mutual
def uptoBulk {H : Type} : DataW H → Nat
  | .lit (.string bytes) => bytes.length + 1
  | .lit _ => 1
  | .nil => 1
  | .ptr d => uptoBulk d + 1
  | .slice elems spare => uptoBulkAll elems + uptoBulkAll spare + 1
  | .agg parts => uptoBulkAll parts + 1
  | .iface _ d => uptoBulk d + 1
  | .map entries => uptoBulkEntries entries + 1
  | .held _ => 1
def uptoBulkAll {H : Type} : List (DataW H) → Nat
  | [] => 0
  | d :: r => uptoBulk d + uptoBulkAll r
def uptoBulkEntries {H : Type} : List (Lit × DataW H) → Nat
  | [] => 0
  | x :: r => uptoBulkEntry x + uptoBulkEntries r
def uptoBulkEntry {H : Type} : Lit × DataW H → Nat
  | (.string bytes, d) => bytes.length + uptoBulk d + 1
  | (_, d) => uptoBulk d + 1
 end
def uptoSmall : (H : Type) → List (DataW H) → Bool := fun _ ds => decide (uptoBulkAll ds ≤ 1048576)
def OpenSpec.upto (s : _root_.Go.ChangeSpec) : _root_.Go.OpenSpec := { _root_.Go.OpenSpec.ofChange s with cond := some uptoSmall }

/-- 'quietuslaw29.CalendarSpansAsSpecified', WHERE WHAT IT READS IS OF BULK AT MOST 1048576: true; the input reads as it did. -/
def calendarSpansAsSpecifiedUptoRow : OpenClaim := { program := "ytgljcfnplkcfhaa", sum := "97f725d8a8d2334778001569c96e8e0f6127b35f415a9fa3be239091e4ab231c", func := "quietus/quietuslaw29.CalendarSpansAsSpecified", spec := "calendarSpansAsSpecified", unfollowed := true, recurses := true, apart := false, narrowed := true }
def CalendarSpansAsSpecifiedUptoSaid : Prop := calendarSpansAsSpecifiedUptoRow.holds Try.pinned (OpenSpec.upto calendarSpansAsSpecifiedSpec)

/-- 'quietuslaw29.CalendarTellsAsSpecified', WHERE WHAT IT READS IS OF BULK AT MOST 1048576: true; the input reads as it did. -/
def calendarTellsAsSpecifiedUptoRow : OpenClaim := { program := "ytgljcfnplkcfhaa", sum := "97f725d8a8d2334778001569c96e8e0f6127b35f415a9fa3be239091e4ab231c", func := "quietus/quietuslaw29.CalendarTellsAsSpecified", spec := "calendarTellsAsSpecified", unfollowed := true, recurses := true, apart := false, narrowed := true }
def CalendarTellsAsSpecifiedUptoSaid : Prop := calendarTellsAsSpecifiedUptoRow.holds Try.pinned (OpenSpec.upto calendarTellsAsSpecifiedSpec)

/-- 'quietuslaw29.CalendarLooksAsSpecified', WHERE WHAT IT READS IS OF BULK AT MOST 1048576: true; the input reads as it did. -/
def calendarLooksAsSpecifiedUptoRow : OpenClaim := { program := "ytgljcfnplkcfhaa", sum := "97f725d8a8d2334778001569c96e8e0f6127b35f415a9fa3be239091e4ab231c", func := "quietus/quietuslaw29.CalendarLooksAsSpecified", spec := "calendarLooksAsSpecified", unfollowed := true, recurses := true, apart := false, narrowed := true }
def CalendarLooksAsSpecifiedUptoSaid : Prop := calendarLooksAsSpecifiedUptoRow.holds Try.pinned (OpenSpec.upto calendarLooksAsSpecifiedSpec)

/-- 'quietuslaw29.CalendarCoversTicks', WHERE WHAT IT READS IS OF BULK AT MOST 1048576: true; the input reads as it did. -/
def calendarCoversTicksUptoRow : OpenClaim := { program := "ytgljcfnplkcfhaa", sum := "97f725d8a8d2334778001569c96e8e0f6127b35f415a9fa3be239091e4ab231c", func := "quietus/quietuslaw29.CalendarCoversTicks", spec := "calendarCoversTicks", unfollowed := true, recurses := true, apart := false, narrowed := true }
def CalendarCoversTicksUptoSaid : Prop := calendarCoversTicksUptoRow.holds Try.pinned (OpenSpec.upto calendarCoversTicksSpec)

/-- 'quietuslaw29.CalendarSafeIsExact', WHERE WHAT IT READS IS OF BULK AT MOST 1048576: true; the input reads as it did. -/
def calendarSafeIsExactUptoRow : OpenClaim := { program := "ytgljcfnplkcfhaa", sum := "97f725d8a8d2334778001569c96e8e0f6127b35f415a9fa3be239091e4ab231c", func := "quietus/quietuslaw29.CalendarSafeIsExact", spec := "calendarSafeIsExact", unfollowed := true, recurses := true, apart := false, narrowed := true }
def CalendarSafeIsExactUptoSaid : Prop := calendarSafeIsExactUptoRow.holds Try.pinned (OpenSpec.upto calendarSafeIsExactSpec)

/-- 'quietuslaw29.CalendarLeastIsLeast', WHERE WHAT IT READS IS OF BULK AT MOST 1048576: true; the input reads as it did. -/
def calendarLeastIsLeastUptoRow : OpenClaim := { program := "ytgljcfnplkcfhaa", sum := "97f725d8a8d2334778001569c96e8e0f6127b35f415a9fa3be239091e4ab231c", func := "quietus/quietuslaw29.CalendarLeastIsLeast", spec := "calendarLeastIsLeast", unfollowed := true, recurses := true, apart := false, narrowed := true }
def CalendarLeastIsLeastUptoSaid : Prop := calendarLeastIsLeastUptoRow.holds Try.pinned (OpenSpec.upto calendarLeastIsLeastSpec)

/-- 'quietuslaw29.CalendarExtends', WHERE WHAT IT READS IS OF BULK AT MOST 1048576: true; the input reads as it did. -/
def calendarExtendsUptoRow : OpenClaim := { program := "ytgljcfnplkcfhaa", sum := "97f725d8a8d2334778001569c96e8e0f6127b35f415a9fa3be239091e4ab231c", func := "quietus/quietuslaw29.CalendarExtends", spec := "calendarExtends", unfollowed := true, recurses := true, apart := false, narrowed := true }
def CalendarExtendsUptoSaid : Prop := calendarExtendsUptoRow.holds Try.pinned (OpenSpec.upto calendarExtendsSpec)

/-- 'quietuslaw38.TraceKeepsAsSpecified', WHERE WHAT IT READS IS OF BULK AT MOST 1048576: true; the input reads as it did. -/
def traceKeepsAsSpecifiedUptoRow : OpenClaim := { program := "ytgljcfnplkcfhaa", sum := "97f725d8a8d2334778001569c96e8e0f6127b35f415a9fa3be239091e4ab231c", func := "quietus/quietuslaw38.TraceKeepsAsSpecified", spec := "traceKeepsAsSpecified", unfollowed := true, recurses := true, apart := false, narrowed := true }
def TraceKeepsAsSpecifiedUptoSaid : Prop := traceKeepsAsSpecifiedUptoRow.holds Try.pinned (OpenSpec.upto traceKeepsAsSpecifiedSpec)

/-- 'quietuslaw38.TraceSeesAsSpecified', WHERE WHAT IT READS IS OF BULK AT MOST 1048576: true; the input reads as it did. -/
def traceSeesAsSpecifiedUptoRow : OpenClaim := { program := "ytgljcfnplkcfhaa", sum := "97f725d8a8d2334778001569c96e8e0f6127b35f415a9fa3be239091e4ab231c", func := "quietus/quietuslaw38.TraceSeesAsSpecified", spec := "traceSeesAsSpecified", unfollowed := true, recurses := true, apart := false, narrowed := true }
def TraceSeesAsSpecifiedUptoSaid : Prop := traceSeesAsSpecifiedUptoRow.holds Try.pinned (OpenSpec.upto traceSeesAsSpecifiedSpec)

/-- 'quietuslaw38.TraceFollowsDerivations', WHERE WHAT IT READS IS OF BULK AT MOST 1048576: true; the input reads as it did. -/
def traceFollowsDerivationsUptoRow : OpenClaim := { program := "ytgljcfnplkcfhaa", sum := "97f725d8a8d2334778001569c96e8e0f6127b35f415a9fa3be239091e4ab231c", func := "quietus/quietuslaw38.TraceFollowsDerivations", spec := "traceFollowsDerivations", unfollowed := true, recurses := true, apart := false, narrowed := true }
def TraceFollowsDerivationsUptoSaid : Prop := traceFollowsDerivationsUptoRow.holds Try.pinned (OpenSpec.upto traceFollowsDerivationsSpec)

/-- 'quietuslaw38.TracePurges', WHERE WHAT IT READS IS OF BULK AT MOST 1048576: true; the input reads as it did. -/
def tracePurgesUptoRow : OpenClaim := { program := "ytgljcfnplkcfhaa", sum := "97f725d8a8d2334778001569c96e8e0f6127b35f415a9fa3be239091e4ab231c", func := "quietus/quietuslaw38.TracePurges", spec := "tracePurges", unfollowed := true, recurses := true, apart := false, narrowed := true }
def TracePurgesUptoSaid : Prop := tracePurgesUptoRow.holds Try.pinned (OpenSpec.upto tracePurgesSpec)

/-- 'quietuslaw38.TraceTellsMore', WHERE WHAT IT READS IS OF BULK AT MOST 1048576: true; the input reads as it did. -/
def traceTellsMoreUptoRow : OpenClaim := { program := "ytgljcfnplkcfhaa", sum := "97f725d8a8d2334778001569c96e8e0f6127b35f415a9fa3be239091e4ab231c", func := "quietus/quietuslaw38.TraceTellsMore", spec := "traceTellsMore", unfollowed := true, recurses := true, apart := false, narrowed := true }
def TraceTellsMoreUptoSaid : Prop := traceTellsMoreUptoRow.holds Try.pinned (OpenSpec.upto traceTellsMoreSpec)

/-- 'quietuslaw38.TraceFollowsCalendar', WHERE WHAT IT READS IS OF BULK AT MOST 1048576: true; the input reads as it did. -/
def traceFollowsCalendarUptoRow : OpenClaim := { program := "ytgljcfnplkcfhaa", sum := "97f725d8a8d2334778001569c96e8e0f6127b35f415a9fa3be239091e4ab231c", func := "quietus/quietuslaw38.TraceFollowsCalendar", spec := "traceFollowsCalendar", unfollowed := true, recurses := true, apart := false, narrowed := true }
def TraceFollowsCalendarUptoSaid : Prop := traceFollowsCalendarUptoRow.holds Try.pinned (OpenSpec.upto traceFollowsCalendarSpec)

end Rows
end Go.Proofs.Ytgljcfnplkcfhaa

/-
  NARROWER THAN 'FOR EVERY INPUT', by the rows' own cells (each row's printed sentence says how): PolyInterpolatesAsSpecified: laid · PolyDecodesAsSpecified: laid · PolyInterpolates: laid · PolyCorrects: laid · PolyRefuses: laid · PolyMatchesSpec: laid · PolyIsARing: laid.
  DERIVED. THE GIVEN ROWS OF THIS SEAT. 7 by the template 'for every input the law returns true; each argument reads behind the call as it read before'; 0 by the template 'total and deterministic' (their statements: YtifaanbnijnbdaaDoorTotals.lean).
  GIVEN WITH THE SEED: the statements are not yours to turn. If you find one false, say at which input.
  Laid BY PROGRAM, IN A SANDBOX (cutbox-rows.mjs): the forced cells as the released guide's own fill.sh prints them over the translation c3517267d67341aa… (all of the seat's roots in one cut). By AI agents, Wed Nov 11 2026. No macro, syntax, notation, axiom, sorry.
-/
import Derived.Test.YtifaanbnijnbdaaDoorChecked
import GoSem.Claim
import GoSem.ClaimJoined
import GoSem.ClaimMapViews
import Derived.JoinedTies
import Derived.KernelRfl
namespace Go.Proofs.YtifaanbnijnbdaaDoor
/- THE CELL 'sum', in the pinned program and in every row, IS THE sha256 OF THE DUMP (.gsa) THAT YtifaanbnijnbdaaDoorProg.lean LOADS. Nothing in Lean hashes anything: it is a label: what it is worth is what the hold of that sum in a sandbox is worth. -/
noncomputable def Tryd.pinned : Pinned := { name := "ytifaanbnijnbdaadoor", sum := "c3517267d67341aac67ac101981ea8a10a2477259dec024b48643c51bd1be57d", checked := Tryd.checked }
namespace Rows
def none {H : Type} : Left H := { results := [], args := [] }

/- WHAT THE LISTED PACKAGE-LEVEL VARIABLES READ AS WHEN THE CALL BEGINS. Each datum BY PROGRAM (the guide's laid-datum.mjs) off the statement by which the dump's own 'gosem.cut.vars' lays the variable. In a bare row this is a premise. The card (YtifaanbnijnbdaaDoorCards.lean) ties it to the program's text. -/
def laid_quietus_gf_high {H : Type} : DataW H := .agg [.lit (.int .u8 0), .lit (.int .u8 29), .lit (.int .u8 58), .lit (.int .u8 39), .lit (.int .u8 116), .lit (.int .u8 105), .lit (.int .u8 78), .lit (.int .u8 83), .lit (.int .u8 232), .lit (.int .u8 245), .lit (.int .u8 210), .lit (.int .u8 207), .lit (.int .u8 156), .lit (.int .u8 129), .lit (.int .u8 166), .lit (.int .u8 187)]

/-- 'quietuslaw06.PolyInterpolatesAsSpecified': WHATEVER THE INPUT: true; the input reads as it did. -/
def polyInterpolatesAsSpecifiedSpec : ChangeSpec := { name := "polyInterpolatesAsSpecified", fn := fun _ => fun
  | [d1, d2, d3] => { results := [.lit (.bool true)], args := [d1, d2, d3] }
  | _ => none }
def polyInterpolatesAsSpecifiedRow : OpenClaim := { program := "ytifaanbnijnbdaadoor", sum := "c3517267d67341aac67ac101981ea8a10a2477259dec024b48643c51bd1be57d", func := "quietus/quietuslaw06.PolyInterpolatesAsSpecified", spec := "polyInterpolatesAsSpecified", unfollowed := true, recurses := true, named := ["quietus/gf.high"], apart := false, laid := [("quietus/gf.high", laid_quietus_gf_high)] }
def PolyInterpolatesAsSpecifiedSaid : Prop := polyInterpolatesAsSpecifiedRow.holds Tryd.pinned (OpenSpec.ofChange polyInterpolatesAsSpecifiedSpec)

/-- ITS FALSE NEIGHBOUR: 'it returns false'. Refute it at one input. -/
def polyInterpolatesAsSpecifiedWrong : ChangeSpec := { name := "polyInterpolatesAsSpecified", fn := fun _ => fun
  | [d1, d2, d3] => { results := [.lit (.bool false)], args := [d1, d2, d3] }
  | _ => none }
def PolyInterpolatesAsSpecifiedWrongFalsely : Prop := polyInterpolatesAsSpecifiedRow.holds Tryd.pinned (OpenSpec.ofChange polyInterpolatesAsSpecifiedWrong)

/-- 'quietuslaw06.PolyDecodesAsSpecified': WHATEVER THE INPUT: true; the input reads as it did. -/
def polyDecodesAsSpecifiedSpec : ChangeSpec := { name := "polyDecodesAsSpecified", fn := fun _ => fun
  | [d1, d2, d3, d4] => { results := [.lit (.bool true)], args := [d1, d2, d3, d4] }
  | _ => none }
def polyDecodesAsSpecifiedRow : OpenClaim := { program := "ytifaanbnijnbdaadoor", sum := "c3517267d67341aac67ac101981ea8a10a2477259dec024b48643c51bd1be57d", func := "quietus/quietuslaw06.PolyDecodesAsSpecified", spec := "polyDecodesAsSpecified", unfollowed := true, recurses := true, named := ["quietus/gf.high"], apart := false, laid := [("quietus/gf.high", laid_quietus_gf_high)] }
def PolyDecodesAsSpecifiedSaid : Prop := polyDecodesAsSpecifiedRow.holds Tryd.pinned (OpenSpec.ofChange polyDecodesAsSpecifiedSpec)

/-- ITS FALSE NEIGHBOUR: 'it returns false'. Refute it at one input. -/
def polyDecodesAsSpecifiedWrong : ChangeSpec := { name := "polyDecodesAsSpecified", fn := fun _ => fun
  | [d1, d2, d3, d4] => { results := [.lit (.bool false)], args := [d1, d2, d3, d4] }
  | _ => none }
def PolyDecodesAsSpecifiedWrongFalsely : Prop := polyDecodesAsSpecifiedRow.holds Tryd.pinned (OpenSpec.ofChange polyDecodesAsSpecifiedWrong)

/-- 'quietuslaw06.PolyInterpolates': WHATEVER THE INPUT: true; the input reads as it did. -/
def polyInterpolatesSpec : ChangeSpec := { name := "polyInterpolates", fn := fun _ => fun
  | [d1, d2, d3] => { results := [.lit (.bool true)], args := [d1, d2, d3] }
  | _ => none }
def polyInterpolatesRow : OpenClaim := { program := "ytifaanbnijnbdaadoor", sum := "c3517267d67341aac67ac101981ea8a10a2477259dec024b48643c51bd1be57d", func := "quietus/quietuslaw06.PolyInterpolates", spec := "polyInterpolates", unfollowed := true, recurses := true, named := ["quietus/gf.high"], apart := false, laid := [("quietus/gf.high", laid_quietus_gf_high)] }
def PolyInterpolatesSaid : Prop := polyInterpolatesRow.holds Tryd.pinned (OpenSpec.ofChange polyInterpolatesSpec)

/-- ITS FALSE NEIGHBOUR: 'it returns false'. Refute it at one input. -/
def polyInterpolatesWrong : ChangeSpec := { name := "polyInterpolates", fn := fun _ => fun
  | [d1, d2, d3] => { results := [.lit (.bool false)], args := [d1, d2, d3] }
  | _ => none }
def PolyInterpolatesWrongFalsely : Prop := polyInterpolatesRow.holds Tryd.pinned (OpenSpec.ofChange polyInterpolatesWrong)

/-- 'quietuslaw06.PolyCorrects': WHATEVER THE INPUT: true; the input reads as it did. -/
def polyCorrectsSpec : ChangeSpec := { name := "polyCorrects", fn := fun _ => fun
  | [d1, d2, d3] => { results := [.lit (.bool true)], args := [d1, d2, d3] }
  | _ => none }
def polyCorrectsRow : OpenClaim := { program := "ytifaanbnijnbdaadoor", sum := "c3517267d67341aac67ac101981ea8a10a2477259dec024b48643c51bd1be57d", func := "quietus/quietuslaw06.PolyCorrects", spec := "polyCorrects", unfollowed := true, recurses := true, named := ["quietus/gf.high"], apart := false, laid := [("quietus/gf.high", laid_quietus_gf_high)] }
def PolyCorrectsSaid : Prop := polyCorrectsRow.holds Tryd.pinned (OpenSpec.ofChange polyCorrectsSpec)

/-- ITS FALSE NEIGHBOUR: 'it returns false'. Refute it at one input. -/
def polyCorrectsWrong : ChangeSpec := { name := "polyCorrects", fn := fun _ => fun
  | [d1, d2, d3] => { results := [.lit (.bool false)], args := [d1, d2, d3] }
  | _ => none }
def PolyCorrectsWrongFalsely : Prop := polyCorrectsRow.holds Tryd.pinned (OpenSpec.ofChange polyCorrectsWrong)

/-- 'quietuslaw06.PolyRefuses': WHATEVER THE INPUT: true; the input reads as it did. -/
def polyRefusesSpec : ChangeSpec := { name := "polyRefuses", fn := fun _ => fun
  | [d1, d2, d3, d4, d5] => { results := [.lit (.bool true)], args := [d1, d2, d3, d4, d5] }
  | _ => none }
def polyRefusesRow : OpenClaim := { program := "ytifaanbnijnbdaadoor", sum := "c3517267d67341aac67ac101981ea8a10a2477259dec024b48643c51bd1be57d", func := "quietus/quietuslaw06.PolyRefuses", spec := "polyRefuses", unfollowed := true, recurses := true, named := ["quietus/gf.high"], apart := false, laid := [("quietus/gf.high", laid_quietus_gf_high)] }
def PolyRefusesSaid : Prop := polyRefusesRow.holds Tryd.pinned (OpenSpec.ofChange polyRefusesSpec)

/-- ITS FALSE NEIGHBOUR: 'it returns false'. Refute it at one input. -/
def polyRefusesWrong : ChangeSpec := { name := "polyRefuses", fn := fun _ => fun
  | [d1, d2, d3, d4, d5] => { results := [.lit (.bool false)], args := [d1, d2, d3, d4, d5] }
  | _ => none }
def PolyRefusesWrongFalsely : Prop := polyRefusesRow.holds Tryd.pinned (OpenSpec.ofChange polyRefusesWrong)

/-- 'quietuslaw06.PolyMatchesSpec': WHATEVER THE INPUT: true; the input reads as it did. -/
def polyMatchesSpecSpec : ChangeSpec := { name := "polyMatchesSpec", fn := fun _ => fun
  | [d1, d2, d3] => { results := [.lit (.bool true)], args := [d1, d2, d3] }
  | _ => none }
def polyMatchesSpecRow : OpenClaim := { program := "ytifaanbnijnbdaadoor", sum := "c3517267d67341aac67ac101981ea8a10a2477259dec024b48643c51bd1be57d", func := "quietus/quietuslaw06.PolyMatchesSpec", spec := "polyMatchesSpec", unfollowed := true, recurses := true, named := ["quietus/gf.high"], apart := false, laid := [("quietus/gf.high", laid_quietus_gf_high)] }
def PolyMatchesSpecSaid : Prop := polyMatchesSpecRow.holds Tryd.pinned (OpenSpec.ofChange polyMatchesSpecSpec)

/-- ITS FALSE NEIGHBOUR: 'it returns false'. Refute it at one input. -/
def polyMatchesSpecWrong : ChangeSpec := { name := "polyMatchesSpec", fn := fun _ => fun
  | [d1, d2, d3] => { results := [.lit (.bool false)], args := [d1, d2, d3] }
  | _ => none }
def PolyMatchesSpecWrongFalsely : Prop := polyMatchesSpecRow.holds Tryd.pinned (OpenSpec.ofChange polyMatchesSpecWrong)

/-- 'quietuslaw06.PolyIsARing': WHATEVER THE INPUT: true; the input reads as it did. -/
def polyIsARingSpec : ChangeSpec := { name := "polyIsARing", fn := fun _ => fun
  | [d1, d2, d3] => { results := [.lit (.bool true)], args := [d1, d2, d3] }
  | _ => none }
def polyIsARingRow : OpenClaim := { program := "ytifaanbnijnbdaadoor", sum := "c3517267d67341aac67ac101981ea8a10a2477259dec024b48643c51bd1be57d", func := "quietus/quietuslaw06.PolyIsARing", spec := "polyIsARing", unfollowed := true, recurses := true, named := ["quietus/gf.high"], apart := false, laid := [("quietus/gf.high", laid_quietus_gf_high)] }
def PolyIsARingSaid : Prop := polyIsARingRow.holds Tryd.pinned (OpenSpec.ofChange polyIsARingSpec)

/-- ITS FALSE NEIGHBOUR: 'it returns false'. Refute it at one input. -/
def polyIsARingWrong : ChangeSpec := { name := "polyIsARing", fn := fun _ => fun
  | [d1, d2, d3] => { results := [.lit (.bool false)], args := [d1, d2, d3] }
  | _ => none }
def PolyIsARingWrongFalsely : Prop := polyIsARingRow.holds Tryd.pinned (OpenSpec.ofChange polyIsARingWrong)

/- THE SECOND FORM. 'bulk': how many values and letters a reading holds, each counted each time it is reached (what is shared counts as often as it is met; a slice's spare places count too). A statement '..UptoSaid' is the law's where the arguments, and the package variables that the reading takes, are together of bulk at most 1048576: NARROWER than '..Said'. Prove '..Said' where nothing that the law and all that it calls make is longer than what came in: it says more and counts as full. Else prove '..UptoSaid'. A law counts once. -/
mutual
def uptoBulk {H : Type} : DataW H → Nat
  | .lit (.string bytes) => bytes.length + 1
  | .lit _ => 1
  | .nil => 1
  | .ptr d => uptoBulk d + 1
  | .slice elems spare => uptoBulkAll elems + uptoBulkAll spare + 1
  | .agg parts => uptoBulkAll parts + 1
  | .iface _ d => uptoBulk d + 1
  | .map entries => uptoBulkEntries entries + 1
  | .held _ => 1
def uptoBulkAll {H : Type} : List (DataW H) → Nat
  | [] => 0
  | d :: r => uptoBulk d + uptoBulkAll r
def uptoBulkEntries {H : Type} : List (Lit × DataW H) → Nat
  | [] => 0
  | x :: r => uptoBulkEntry x + uptoBulkEntries r
def uptoBulkEntry {H : Type} : Lit × DataW H → Nat
  | (.string bytes, d) => bytes.length + uptoBulk d + 1
  | (_, d) => uptoBulk d + 1
 end
def uptoSmall : (H : Type) → List (DataW H) → Bool := fun _ ds => decide (uptoBulkAll ds ≤ 1048576)
def OpenSpec.upto (s : _root_.Go.ChangeSpec) : _root_.Go.OpenSpec := { _root_.Go.OpenSpec.ofChange s with cond := some uptoSmall }

/-- 'quietuslaw06.PolyInterpolatesAsSpecified', WHERE WHAT IT READS IS OF BULK AT MOST 1048576: true; the input reads as it did. -/
def polyInterpolatesAsSpecifiedUptoRow : OpenClaim := { program := "ytifaanbnijnbdaadoor", sum := "c3517267d67341aac67ac101981ea8a10a2477259dec024b48643c51bd1be57d", func := "quietus/quietuslaw06.PolyInterpolatesAsSpecified", spec := "polyInterpolatesAsSpecified", unfollowed := true, recurses := true, named := ["quietus/gf.high"], apart := false, laid := [("quietus/gf.high", laid_quietus_gf_high)], narrowed := true }
def PolyInterpolatesAsSpecifiedUptoSaid : Prop := polyInterpolatesAsSpecifiedUptoRow.holds Tryd.pinned (OpenSpec.upto polyInterpolatesAsSpecifiedSpec)

/-- 'quietuslaw06.PolyDecodesAsSpecified', WHERE WHAT IT READS IS OF BULK AT MOST 1048576: true; the input reads as it did. -/
def polyDecodesAsSpecifiedUptoRow : OpenClaim := { program := "ytifaanbnijnbdaadoor", sum := "c3517267d67341aac67ac101981ea8a10a2477259dec024b48643c51bd1be57d", func := "quietus/quietuslaw06.PolyDecodesAsSpecified", spec := "polyDecodesAsSpecified", unfollowed := true, recurses := true, named := ["quietus/gf.high"], apart := false, laid := [("quietus/gf.high", laid_quietus_gf_high)], narrowed := true }
def PolyDecodesAsSpecifiedUptoSaid : Prop := polyDecodesAsSpecifiedUptoRow.holds Tryd.pinned (OpenSpec.upto polyDecodesAsSpecifiedSpec)

/-- 'quietuslaw06.PolyInterpolates', WHERE WHAT IT READS IS OF BULK AT MOST 1048576: true; the input reads as it did. -/
def polyInterpolatesUptoRow : OpenClaim := { program := "ytifaanbnijnbdaadoor", sum := "c3517267d67341aac67ac101981ea8a10a2477259dec024b48643c51bd1be57d", func := "quietus/quietuslaw06.PolyInterpolates", spec := "polyInterpolates", unfollowed := true, recurses := true, named := ["quietus/gf.high"], apart := false, laid := [("quietus/gf.high", laid_quietus_gf_high)], narrowed := true }
def PolyInterpolatesUptoSaid : Prop := polyInterpolatesUptoRow.holds Tryd.pinned (OpenSpec.upto polyInterpolatesSpec)

/-- 'quietuslaw06.PolyCorrects', WHERE WHAT IT READS IS OF BULK AT MOST 1048576: true; the input reads as it did. -/
def polyCorrectsUptoRow : OpenClaim := { program := "ytifaanbnijnbdaadoor", sum := "c3517267d67341aac67ac101981ea8a10a2477259dec024b48643c51bd1be57d", func := "quietus/quietuslaw06.PolyCorrects", spec := "polyCorrects", unfollowed := true, recurses := true, named := ["quietus/gf.high"], apart := false, laid := [("quietus/gf.high", laid_quietus_gf_high)], narrowed := true }
def PolyCorrectsUptoSaid : Prop := polyCorrectsUptoRow.holds Tryd.pinned (OpenSpec.upto polyCorrectsSpec)

/-- 'quietuslaw06.PolyRefuses', WHERE WHAT IT READS IS OF BULK AT MOST 1048576: true; the input reads as it did. -/
def polyRefusesUptoRow : OpenClaim := { program := "ytifaanbnijnbdaadoor", sum := "c3517267d67341aac67ac101981ea8a10a2477259dec024b48643c51bd1be57d", func := "quietus/quietuslaw06.PolyRefuses", spec := "polyRefuses", unfollowed := true, recurses := true, named := ["quietus/gf.high"], apart := false, laid := [("quietus/gf.high", laid_quietus_gf_high)], narrowed := true }
def PolyRefusesUptoSaid : Prop := polyRefusesUptoRow.holds Tryd.pinned (OpenSpec.upto polyRefusesSpec)

/-- 'quietuslaw06.PolyMatchesSpec', WHERE WHAT IT READS IS OF BULK AT MOST 1048576: true; the input reads as it did. -/
def polyMatchesSpecUptoRow : OpenClaim := { program := "ytifaanbnijnbdaadoor", sum := "c3517267d67341aac67ac101981ea8a10a2477259dec024b48643c51bd1be57d", func := "quietus/quietuslaw06.PolyMatchesSpec", spec := "polyMatchesSpec", unfollowed := true, recurses := true, named := ["quietus/gf.high"], apart := false, laid := [("quietus/gf.high", laid_quietus_gf_high)], narrowed := true }
def PolyMatchesSpecUptoSaid : Prop := polyMatchesSpecUptoRow.holds Tryd.pinned (OpenSpec.upto polyMatchesSpecSpec)

/-- 'quietuslaw06.PolyIsARing', WHERE WHAT IT READS IS OF BULK AT MOST 1048576: true; the input reads as it did. -/
def polyIsARingUptoRow : OpenClaim := { program := "ytifaanbnijnbdaadoor", sum := "c3517267d67341aac67ac101981ea8a10a2477259dec024b48643c51bd1be57d", func := "quietus/quietuslaw06.PolyIsARing", spec := "polyIsARing", unfollowed := true, recurses := true, named := ["quietus/gf.high"], apart := false, laid := [("quietus/gf.high", laid_quietus_gf_high)], narrowed := true }
def PolyIsARingUptoSaid : Prop := polyIsARingUptoRow.holds Tryd.pinned (OpenSpec.upto polyIsARingSpec)

end Rows
end Go.Proofs.YtifaanbnijnbdaaDoor

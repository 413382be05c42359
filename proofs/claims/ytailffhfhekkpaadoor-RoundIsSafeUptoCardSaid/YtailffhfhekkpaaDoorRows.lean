/-
  NARROWER THAN 'FOR EVERY INPUT', by the rows' own cells (each row's printed sentence says how): RoundAgrees: laid · RoundIsSafe: laid.
  DERIVED. THE GIVEN ROWS OF THIS SEAT. 2 by the template 'for every input the law returns true; each argument reads behind the call as it read before'; 0 by the template 'total and deterministic' (their statements: YtailffhfhekkpaaDoorTotals.lean).
  GIVEN WITH THE SEED: the statements are not yours to turn. If you find one false, say at which input.
  Laid BY PROGRAM, IN A SANDBOX (cutbox-rows.mjs): the forced cells as the released guide's own fill.sh prints them over the translation 067a4daf48ec7139… (all of the seat's roots in one cut). By AI agents, Wed Nov 11 2026. No macro, syntax, notation, axiom, sorry.
-/
import Derived.Test.YtailffhfhekkpaaDoorChecked
import GoSem.Claim
import GoSem.ClaimJoined
import GoSem.ClaimMapViews
import Derived.JoinedTies
import Derived.KernelRfl
namespace Go.Proofs.YtailffhfhekkpaaDoor
/- THE CELL 'sum', in the pinned program and in every row, IS THE sha256 OF THE DUMP (.gsa) THAT YtailffhfhekkpaaDoorProg.lean LOADS. Nothing in Lean hashes anything: it is a label: what it is worth is what the hold of that sum in a sandbox is worth. -/
noncomputable def Tryd.pinned : Pinned := { name := "ytailffhfhekkpaadoor", sum := "067a4daf48ec71399589fd2a9b215dad1b84a27b8723719060ed4e2cc380dfb6", checked := Tryd.checked }
namespace Rows
def none {H : Type} : Left H := { results := [], args := [] }

/- WHAT THE LISTED PACKAGE-LEVEL VARIABLES READ AS WHEN THE CALL BEGINS. Each datum BY PROGRAM (the guide's laid-datum.mjs) off the statement by which the dump's own 'gosem.cut.vars' lays the variable. In a bare row this is a premise. The card (YtailffhfhekkpaaDoorCards.lean) ties it to the program's text. -/
def laid_quietus_gf_high {H : Type} : DataW H := .agg [.lit (.int .u8 0), .lit (.int .u8 29), .lit (.int .u8 58), .lit (.int .u8 39), .lit (.int .u8 116), .lit (.int .u8 105), .lit (.int .u8 78), .lit (.int .u8 83), .lit (.int .u8 232), .lit (.int .u8 245), .lit (.int .u8 210), .lit (.int .u8 207), .lit (.int .u8 156), .lit (.int .u8 129), .lit (.int .u8 166), .lit (.int .u8 187)]

/-- 'quietuslaw28.RoundAgrees': WHATEVER THE INPUT: true; the input reads as it did. -/
def roundAgreesSpec : ChangeSpec := { name := "roundAgrees", fn := fun _ => fun
  | [d] => { results := [.lit (.bool true)], args := [d] }
  | _ => none }
def roundAgreesRow : OpenClaim := { program := "ytailffhfhekkpaadoor", sum := "067a4daf48ec71399589fd2a9b215dad1b84a27b8723719060ed4e2cc380dfb6", func := "quietus/quietuslaw28.RoundAgrees", spec := "roundAgrees", unfollowed := true, recurses := true, named := ["quietus/gf.high"], apart := false, laid := [("quietus/gf.high", laid_quietus_gf_high)] }
def RoundAgreesSaid : Prop := roundAgreesRow.holds Tryd.pinned (OpenSpec.ofChange roundAgreesSpec)

/-- ITS FALSE NEIGHBOUR: 'it returns false'. Refute it at one input. -/
def roundAgreesWrong : ChangeSpec := { name := "roundAgrees", fn := fun _ => fun
  | [d] => { results := [.lit (.bool false)], args := [d] }
  | _ => none }
def RoundAgreesWrongFalsely : Prop := roundAgreesRow.holds Tryd.pinned (OpenSpec.ofChange roundAgreesWrong)

/-- 'quietuslaw28.RoundIsSafe': WHATEVER THE INPUT: true; the input reads as it did. -/
def roundIsSafeSpec : ChangeSpec := { name := "roundIsSafe", fn := fun _ => fun
  | [d] => { results := [.lit (.bool true)], args := [d] }
  | _ => none }
def roundIsSafeRow : OpenClaim := { program := "ytailffhfhekkpaadoor", sum := "067a4daf48ec71399589fd2a9b215dad1b84a27b8723719060ed4e2cc380dfb6", func := "quietus/quietuslaw28.RoundIsSafe", spec := "roundIsSafe", unfollowed := true, recurses := true, named := ["quietus/gf.high"], apart := false, laid := [("quietus/gf.high", laid_quietus_gf_high)] }
def RoundIsSafeSaid : Prop := roundIsSafeRow.holds Tryd.pinned (OpenSpec.ofChange roundIsSafeSpec)

/-- ITS FALSE NEIGHBOUR: 'it returns false'. Refute it at one input. -/
def roundIsSafeWrong : ChangeSpec := { name := "roundIsSafe", fn := fun _ => fun
  | [d] => { results := [.lit (.bool false)], args := [d] }
  | _ => none }
def RoundIsSafeWrongFalsely : Prop := roundIsSafeRow.holds Tryd.pinned (OpenSpec.ofChange roundIsSafeWrong)

/- THE SECOND FORM. 'bulk': how many values and letters a reading holds, each counted each time it is reached (what is shared counts as often as it is met; a slice's spare places count too). A statement '..UptoSaid' is the law's where the arguments, and the package variables that the reading takes, are together of bulk at most 1048576: NARROWER than '..Said'. Prove '..Said' where nothing that the law and all that it calls make is longer than what came in: it says more and counts as full. Else prove '..UptoSaid'. A law counts once. -/
mutual
def uptoBulk {H : Type} : DataW H → Nat
  | .lit (.string bytes) => bytes.length + 1
  | .lit _ => 1
  | .nil => 1
  | .ptr d => uptoBulk d + 1
  | .slice elems spare => uptoBulkAll elems + uptoBulkAll spare + 1
  | .agg parts => uptoBulkAll parts + 1
  | .iface _ d => uptoBulk d + 1
  | .map entries => uptoBulkEntries entries + 1
  | .held _ => 1
def uptoBulkAll {H : Type} : List (DataW H) → Nat
  | [] => 0
  | d :: r => uptoBulk d + uptoBulkAll r
def uptoBulkEntries {H : Type} : List (Lit × DataW H) → Nat
  | [] => 0
  | x :: r => uptoBulkEntry x + uptoBulkEntries r
def uptoBulkEntry {H : Type} : Lit × DataW H → Nat
  | (.string bytes, d) => bytes.length + uptoBulk d + 1
  | (_, d) => uptoBulk d + 1
 end
def uptoSmall : (H : Type) → List (DataW H) → Bool := fun _ ds => decide (uptoBulkAll ds ≤ 1048576)
def OpenSpec.upto (s : _root_.Go.ChangeSpec) : _root_.Go.OpenSpec := { _root_.Go.OpenSpec.ofChange s with cond := some uptoSmall }

/-- 'quietuslaw28.RoundAgrees', WHERE WHAT IT READS IS OF BULK AT MOST 1048576: true; the input reads as it did. -/
def roundAgreesUptoRow : OpenClaim := { program := "ytailffhfhekkpaadoor", sum := "067a4daf48ec71399589fd2a9b215dad1b84a27b8723719060ed4e2cc380dfb6", func := "quietus/quietuslaw28.RoundAgrees", spec := "roundAgrees", unfollowed := true, recurses := true, named := ["quietus/gf.high"], apart := false, laid := [("quietus/gf.high", laid_quietus_gf_high)], narrowed := true }
def RoundAgreesUptoSaid : Prop := roundAgreesUptoRow.holds Tryd.pinned (OpenSpec.upto roundAgreesSpec)

/-- 'quietuslaw28.RoundIsSafe', WHERE WHAT IT READS IS OF BULK AT MOST 1048576: true; the input reads as it did. -/
def roundIsSafeUptoRow : OpenClaim := { program := "ytailffhfhekkpaadoor", sum := "067a4daf48ec71399589fd2a9b215dad1b84a27b8723719060ed4e2cc380dfb6", func := "quietus/quietuslaw28.RoundIsSafe", spec := "roundIsSafe", unfollowed := true, recurses := true, named := ["quietus/gf.high"], apart := false, laid := [("quietus/gf.high", laid_quietus_gf_high)], narrowed := true }
def RoundIsSafeUptoSaid : Prop := roundIsSafeUptoRow.holds Tryd.pinned (OpenSpec.upto roundIsSafeSpec)

end Rows
end Go.Proofs.YtailffhfhekkpaaDoor

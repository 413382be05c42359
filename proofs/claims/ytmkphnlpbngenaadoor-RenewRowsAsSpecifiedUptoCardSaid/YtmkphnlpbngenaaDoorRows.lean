/-
  NARROWER THAN 'FOR EVERY INPUT', by the rows' own cells (each row's printed sentence says how): RenewDealsAsSpecified: laid · RenewRowsAsSpecified: laid · RenewRefills: laid · RenewIsOne: laid · RenewKeepsSecret: laid · RenewTellsNothing: laid · RenewSeparates: laid.
  DERIVED. THE GIVEN ROWS OF THIS SEAT. 7 by the template 'for every input the law returns true; each argument reads behind the call as it read before'; 0 by the template 'total and deterministic' (their statements: YtmkphnlpbngenaaDoorTotals.lean).
  GIVEN WITH THE SEED: the statements are not yours to turn. If you find one false, say at which input.
  Laid BY PROGRAM, IN A SANDBOX (cutbox-rows.mjs): the forced cells as the released guide's own fill.sh prints them over the translation 7c0bbd3e858bf6d9… (all of the seat's roots in one cut). By AI agents, Wed Nov 11 2026. No macro, syntax, notation, axiom, sorry.
-/
import Derived.Test.YtmkphnlpbngenaaDoorChecked
import GoSem.Claim
import GoSem.ClaimJoined
import GoSem.ClaimMapViews
import Derived.JoinedTies
import Derived.KernelRfl
namespace Go.Proofs.YtmkphnlpbngenaaDoor
/- THE CELL 'sum', in the pinned program and in every row, IS THE sha256 OF THE DUMP (.gsa) THAT YtmkphnlpbngenaaDoorProg.lean LOADS. Nothing in Lean hashes anything: it is a label: what it is worth is what the hold of that sum in a sandbox is worth. -/
noncomputable def Tryd.pinned : Pinned := { name := "ytmkphnlpbngenaadoor", sum := "7c0bbd3e858bf6d948636013e15360be10bcf582ae22c36ff9ae51d90280a493", checked := Tryd.checked }
namespace Rows
def none {H : Type} : Left H := { results := [], args := [] }

/- WHAT THE LISTED PACKAGE-LEVEL VARIABLES READ AS WHEN THE CALL BEGINS. Each datum BY PROGRAM (the guide's laid-datum.mjs) off the statement by which the dump's own 'gosem.cut.vars' lays the variable. In a bare row this is a premise. The card (YtmkphnlpbngenaaDoorCards.lean) ties it to the program's text. -/
def laid_quietus_gf_high {H : Type} : DataW H := .agg [.lit (.int .u8 0), .lit (.int .u8 29), .lit (.int .u8 58), .lit (.int .u8 39), .lit (.int .u8 116), .lit (.int .u8 105), .lit (.int .u8 78), .lit (.int .u8 83), .lit (.int .u8 232), .lit (.int .u8 245), .lit (.int .u8 210), .lit (.int .u8 207), .lit (.int .u8 156), .lit (.int .u8 129), .lit (.int .u8 166), .lit (.int .u8 187)]

/-- 'quietuslaw27.RenewDealsAsSpecified': WHATEVER THE INPUT: true; the input reads as it did. -/
def renewDealsAsSpecifiedSpec : ChangeSpec := { name := "renewDealsAsSpecified", fn := fun _ => fun
  | [d1, d2, d3] => { results := [.lit (.bool true)], args := [d1, d2, d3] }
  | _ => none }
def renewDealsAsSpecifiedRow : OpenClaim := { program := "ytmkphnlpbngenaadoor", sum := "7c0bbd3e858bf6d948636013e15360be10bcf582ae22c36ff9ae51d90280a493", func := "quietus/quietuslaw27.RenewDealsAsSpecified", spec := "renewDealsAsSpecified", unfollowed := true, recurses := true, named := ["quietus/gf.high"], apart := false, laid := [("quietus/gf.high", laid_quietus_gf_high)] }
def RenewDealsAsSpecifiedSaid : Prop := renewDealsAsSpecifiedRow.holds Tryd.pinned (OpenSpec.ofChange renewDealsAsSpecifiedSpec)

/-- ITS FALSE NEIGHBOUR: 'it returns false'. Refute it at one input. -/
def renewDealsAsSpecifiedWrong : ChangeSpec := { name := "renewDealsAsSpecified", fn := fun _ => fun
  | [d1, d2, d3] => { results := [.lit (.bool false)], args := [d1, d2, d3] }
  | _ => none }
def RenewDealsAsSpecifiedWrongFalsely : Prop := renewDealsAsSpecifiedRow.holds Tryd.pinned (OpenSpec.ofChange renewDealsAsSpecifiedWrong)

/-- 'quietuslaw27.RenewRowsAsSpecified': WHATEVER THE INPUT: true; the input reads as it did. -/
def renewRowsAsSpecifiedSpec : ChangeSpec := { name := "renewRowsAsSpecified", fn := fun _ => fun
  | [d1, d2, d3] => { results := [.lit (.bool true)], args := [d1, d2, d3] }
  | _ => none }
def renewRowsAsSpecifiedRow : OpenClaim := { program := "ytmkphnlpbngenaadoor", sum := "7c0bbd3e858bf6d948636013e15360be10bcf582ae22c36ff9ae51d90280a493", func := "quietus/quietuslaw27.RenewRowsAsSpecified", spec := "renewRowsAsSpecified", unfollowed := true, recurses := true, named := ["quietus/gf.high"], apart := false, laid := [("quietus/gf.high", laid_quietus_gf_high)] }
def RenewRowsAsSpecifiedSaid : Prop := renewRowsAsSpecifiedRow.holds Tryd.pinned (OpenSpec.ofChange renewRowsAsSpecifiedSpec)

/-- ITS FALSE NEIGHBOUR: 'it returns false'. Refute it at one input. -/
def renewRowsAsSpecifiedWrong : ChangeSpec := { name := "renewRowsAsSpecified", fn := fun _ => fun
  | [d1, d2, d3] => { results := [.lit (.bool false)], args := [d1, d2, d3] }
  | _ => none }
def RenewRowsAsSpecifiedWrongFalsely : Prop := renewRowsAsSpecifiedRow.holds Tryd.pinned (OpenSpec.ofChange renewRowsAsSpecifiedWrong)

/-- 'quietuslaw27.RenewRefills': WHATEVER THE INPUT: true; the input reads as it did. -/
def renewRefillsSpec : ChangeSpec := { name := "renewRefills", fn := fun _ => fun
  | [d1, d2, d3] => { results := [.lit (.bool true)], args := [d1, d2, d3] }
  | _ => none }
def renewRefillsRow : OpenClaim := { program := "ytmkphnlpbngenaadoor", sum := "7c0bbd3e858bf6d948636013e15360be10bcf582ae22c36ff9ae51d90280a493", func := "quietus/quietuslaw27.RenewRefills", spec := "renewRefills", unfollowed := true, recurses := true, named := ["quietus/gf.high"], apart := false, laid := [("quietus/gf.high", laid_quietus_gf_high)] }
def RenewRefillsSaid : Prop := renewRefillsRow.holds Tryd.pinned (OpenSpec.ofChange renewRefillsSpec)

/-- ITS FALSE NEIGHBOUR: 'it returns false'. Refute it at one input. -/
def renewRefillsWrong : ChangeSpec := { name := "renewRefills", fn := fun _ => fun
  | [d1, d2, d3] => { results := [.lit (.bool false)], args := [d1, d2, d3] }
  | _ => none }
def RenewRefillsWrongFalsely : Prop := renewRefillsRow.holds Tryd.pinned (OpenSpec.ofChange renewRefillsWrong)

/-- 'quietuslaw27.RenewIsOne': WHATEVER THE INPUT: true; the input reads as it did. -/
def renewIsOneSpec : ChangeSpec := { name := "renewIsOne", fn := fun _ => fun
  | [d] => { results := [.lit (.bool true)], args := [d] }
  | _ => none }
def renewIsOneRow : OpenClaim := { program := "ytmkphnlpbngenaadoor", sum := "7c0bbd3e858bf6d948636013e15360be10bcf582ae22c36ff9ae51d90280a493", func := "quietus/quietuslaw27.RenewIsOne", spec := "renewIsOne", unfollowed := true, recurses := true, named := ["quietus/gf.high"], apart := false, laid := [("quietus/gf.high", laid_quietus_gf_high)] }
def RenewIsOneSaid : Prop := renewIsOneRow.holds Tryd.pinned (OpenSpec.ofChange renewIsOneSpec)

/-- ITS FALSE NEIGHBOUR: 'it returns false'. Refute it at one input. -/
def renewIsOneWrong : ChangeSpec := { name := "renewIsOne", fn := fun _ => fun
  | [d] => { results := [.lit (.bool false)], args := [d] }
  | _ => none }
def RenewIsOneWrongFalsely : Prop := renewIsOneRow.holds Tryd.pinned (OpenSpec.ofChange renewIsOneWrong)

/-- 'quietuslaw27.RenewKeepsSecret': WHATEVER THE INPUT: true; the input reads as it did. -/
def renewKeepsSecretSpec : ChangeSpec := { name := "renewKeepsSecret", fn := fun _ => fun
  | [d1, d2, d3] => { results := [.lit (.bool true)], args := [d1, d2, d3] }
  | _ => none }
def renewKeepsSecretRow : OpenClaim := { program := "ytmkphnlpbngenaadoor", sum := "7c0bbd3e858bf6d948636013e15360be10bcf582ae22c36ff9ae51d90280a493", func := "quietus/quietuslaw27.RenewKeepsSecret", spec := "renewKeepsSecret", unfollowed := true, recurses := true, named := ["quietus/gf.high"], apart := false, laid := [("quietus/gf.high", laid_quietus_gf_high)] }
def RenewKeepsSecretSaid : Prop := renewKeepsSecretRow.holds Tryd.pinned (OpenSpec.ofChange renewKeepsSecretSpec)

/-- ITS FALSE NEIGHBOUR: 'it returns false'. Refute it at one input. -/
def renewKeepsSecretWrong : ChangeSpec := { name := "renewKeepsSecret", fn := fun _ => fun
  | [d1, d2, d3] => { results := [.lit (.bool false)], args := [d1, d2, d3] }
  | _ => none }
def RenewKeepsSecretWrongFalsely : Prop := renewKeepsSecretRow.holds Tryd.pinned (OpenSpec.ofChange renewKeepsSecretWrong)

/-- 'quietuslaw27.RenewTellsNothing': WHATEVER THE INPUT: true; the input reads as it did. -/
def renewTellsNothingSpec : ChangeSpec := { name := "renewTellsNothing", fn := fun _ => fun
  | [d1, d2, d3, d4, d5] => { results := [.lit (.bool true)], args := [d1, d2, d3, d4, d5] }
  | _ => none }
def renewTellsNothingRow : OpenClaim := { program := "ytmkphnlpbngenaadoor", sum := "7c0bbd3e858bf6d948636013e15360be10bcf582ae22c36ff9ae51d90280a493", func := "quietus/quietuslaw27.RenewTellsNothing", spec := "renewTellsNothing", unfollowed := true, recurses := true, named := ["quietus/gf.high"], apart := false, laid := [("quietus/gf.high", laid_quietus_gf_high)] }
def RenewTellsNothingSaid : Prop := renewTellsNothingRow.holds Tryd.pinned (OpenSpec.ofChange renewTellsNothingSpec)

/-- ITS FALSE NEIGHBOUR: 'it returns false'. Refute it at one input. -/
def renewTellsNothingWrong : ChangeSpec := { name := "renewTellsNothing", fn := fun _ => fun
  | [d1, d2, d3, d4, d5] => { results := [.lit (.bool false)], args := [d1, d2, d3, d4, d5] }
  | _ => none }
def RenewTellsNothingWrongFalsely : Prop := renewTellsNothingRow.holds Tryd.pinned (OpenSpec.ofChange renewTellsNothingWrong)

/-- 'quietuslaw27.RenewSeparates': WHATEVER THE INPUT: true; the input reads as it did. -/
def renewSeparatesSpec : ChangeSpec := { name := "renewSeparates", fn := fun _ => fun
  | [d1, d2, d3, d4, d5] => { results := [.lit (.bool true)], args := [d1, d2, d3, d4, d5] }
  | _ => none }
def renewSeparatesRow : OpenClaim := { program := "ytmkphnlpbngenaadoor", sum := "7c0bbd3e858bf6d948636013e15360be10bcf582ae22c36ff9ae51d90280a493", func := "quietus/quietuslaw27.RenewSeparates", spec := "renewSeparates", unfollowed := true, recurses := true, named := ["quietus/gf.high"], apart := false, laid := [("quietus/gf.high", laid_quietus_gf_high)] }
def RenewSeparatesSaid : Prop := renewSeparatesRow.holds Tryd.pinned (OpenSpec.ofChange renewSeparatesSpec)

/-- ITS FALSE NEIGHBOUR: 'it returns false'. Refute it at one input. -/
def renewSeparatesWrong : ChangeSpec := { name := "renewSeparates", fn := fun _ => fun
  | [d1, d2, d3, d4, d5] => { results := [.lit (.bool false)], args := [d1, d2, d3, d4, d5] }
  | _ => none }
def RenewSeparatesWrongFalsely : Prop := renewSeparatesRow.holds Tryd.pinned (OpenSpec.ofChange renewSeparatesWrong)

/- THE SECOND FORM. 'bulk': how many values and letters a reading holds, each counted each time it is reached (what is shared counts as often as it is met; a slice's spare places count too). A statement '..UptoSaid' is the law's where the arguments, and the package variables that the reading takes, are together of bulk at most 1048576: NARROWER than '..Said'. Prove '..Said' where nothing that the law and all that it calls make is longer than what came in: it says more and counts as full. Else prove '..UptoSaid'. A law counts once. -/
mutual
def uptoBulk {H : Type} : DataW H → Nat
  | .lit (.string bytes) => bytes.length + 1
  | .lit _ => 1
  | .nil => 1
  | .ptr d => uptoBulk d + 1
  | .slice elems spare => uptoBulkAll elems + uptoBulkAll spare + 1
  | .agg parts => uptoBulkAll parts + 1
  | .iface _ d => uptoBulk d + 1
  | .map entries => uptoBulkEntries entries + 1
  | .held _ => 1
def uptoBulkAll {H : Type} : List (DataW H) → Nat
  | [] => 0
  | d :: r => uptoBulk d + uptoBulkAll r
def uptoBulkEntries {H : Type} : List (Lit × DataW H) → Nat
  | [] => 0
  | x :: r => uptoBulkEntry x + uptoBulkEntries r
def uptoBulkEntry {H : Type} : Lit × DataW H → Nat
  | (.string bytes, d) => bytes.length + uptoBulk d + 1
  | (_, d) => uptoBulk d + 1
 end
def uptoSmall : (H : Type) → List (DataW H) → Bool := fun _ ds => decide (uptoBulkAll ds ≤ 1048576)
def OpenSpec.upto (s : _root_.Go.ChangeSpec) : _root_.Go.OpenSpec := { _root_.Go.OpenSpec.ofChange s with cond := some uptoSmall }

/-- 'quietuslaw27.RenewDealsAsSpecified', WHERE WHAT IT READS IS OF BULK AT MOST 1048576: true; the input reads as it did. -/
def renewDealsAsSpecifiedUptoRow : OpenClaim := { program := "ytmkphnlpbngenaadoor", sum := "7c0bbd3e858bf6d948636013e15360be10bcf582ae22c36ff9ae51d90280a493", func := "quietus/quietuslaw27.RenewDealsAsSpecified", spec := "renewDealsAsSpecified", unfollowed := true, recurses := true, named := ["quietus/gf.high"], apart := false, laid := [("quietus/gf.high", laid_quietus_gf_high)], narrowed := true }
def RenewDealsAsSpecifiedUptoSaid : Prop := renewDealsAsSpecifiedUptoRow.holds Tryd.pinned (OpenSpec.upto renewDealsAsSpecifiedSpec)

/-- 'quietuslaw27.RenewRowsAsSpecified', WHERE WHAT IT READS IS OF BULK AT MOST 1048576: true; the input reads as it did. -/
def renewRowsAsSpecifiedUptoRow : OpenClaim := { program := "ytmkphnlpbngenaadoor", sum := "7c0bbd3e858bf6d948636013e15360be10bcf582ae22c36ff9ae51d90280a493", func := "quietus/quietuslaw27.RenewRowsAsSpecified", spec := "renewRowsAsSpecified", unfollowed := true, recurses := true, named := ["quietus/gf.high"], apart := false, laid := [("quietus/gf.high", laid_quietus_gf_high)], narrowed := true }
def RenewRowsAsSpecifiedUptoSaid : Prop := renewRowsAsSpecifiedUptoRow.holds Tryd.pinned (OpenSpec.upto renewRowsAsSpecifiedSpec)

/-- 'quietuslaw27.RenewRefills', WHERE WHAT IT READS IS OF BULK AT MOST 1048576: true; the input reads as it did. -/
def renewRefillsUptoRow : OpenClaim := { program := "ytmkphnlpbngenaadoor", sum := "7c0bbd3e858bf6d948636013e15360be10bcf582ae22c36ff9ae51d90280a493", func := "quietus/quietuslaw27.RenewRefills", spec := "renewRefills", unfollowed := true, recurses := true, named := ["quietus/gf.high"], apart := false, laid := [("quietus/gf.high", laid_quietus_gf_high)], narrowed := true }
def RenewRefillsUptoSaid : Prop := renewRefillsUptoRow.holds Tryd.pinned (OpenSpec.upto renewRefillsSpec)

/-- 'quietuslaw27.RenewIsOne', WHERE WHAT IT READS IS OF BULK AT MOST 1048576: true; the input reads as it did. -/
def renewIsOneUptoRow : OpenClaim := { program := "ytmkphnlpbngenaadoor", sum := "7c0bbd3e858bf6d948636013e15360be10bcf582ae22c36ff9ae51d90280a493", func := "quietus/quietuslaw27.RenewIsOne", spec := "renewIsOne", unfollowed := true, recurses := true, named := ["quietus/gf.high"], apart := false, laid := [("quietus/gf.high", laid_quietus_gf_high)], narrowed := true }
def RenewIsOneUptoSaid : Prop := renewIsOneUptoRow.holds Tryd.pinned (OpenSpec.upto renewIsOneSpec)

/-- 'quietuslaw27.RenewKeepsSecret', WHERE WHAT IT READS IS OF BULK AT MOST 1048576: true; the input reads as it did. -/
def renewKeepsSecretUptoRow : OpenClaim := { program := "ytmkphnlpbngenaadoor", sum := "7c0bbd3e858bf6d948636013e15360be10bcf582ae22c36ff9ae51d90280a493", func := "quietus/quietuslaw27.RenewKeepsSecret", spec := "renewKeepsSecret", unfollowed := true, recurses := true, named := ["quietus/gf.high"], apart := false, laid := [("quietus/gf.high", laid_quietus_gf_high)], narrowed := true }
def RenewKeepsSecretUptoSaid : Prop := renewKeepsSecretUptoRow.holds Tryd.pinned (OpenSpec.upto renewKeepsSecretSpec)

/-- 'quietuslaw27.RenewTellsNothing', WHERE WHAT IT READS IS OF BULK AT MOST 1048576: true; the input reads as it did. -/
def renewTellsNothingUptoRow : OpenClaim := { program := "ytmkphnlpbngenaadoor", sum := "7c0bbd3e858bf6d948636013e15360be10bcf582ae22c36ff9ae51d90280a493", func := "quietus/quietuslaw27.RenewTellsNothing", spec := "renewTellsNothing", unfollowed := true, recurses := true, named := ["quietus/gf.high"], apart := false, laid := [("quietus/gf.high", laid_quietus_gf_high)], narrowed := true }
def RenewTellsNothingUptoSaid : Prop := renewTellsNothingUptoRow.holds Tryd.pinned (OpenSpec.upto renewTellsNothingSpec)

/-- 'quietuslaw27.RenewSeparates', WHERE WHAT IT READS IS OF BULK AT MOST 1048576: true; the input reads as it did. -/
def renewSeparatesUptoRow : OpenClaim := { program := "ytmkphnlpbngenaadoor", sum := "7c0bbd3e858bf6d948636013e15360be10bcf582ae22c36ff9ae51d90280a493", func := "quietus/quietuslaw27.RenewSeparates", spec := "renewSeparates", unfollowed := true, recurses := true, named := ["quietus/gf.high"], apart := false, laid := [("quietus/gf.high", laid_quietus_gf_high)], narrowed := true }
def RenewSeparatesUptoSaid : Prop := renewSeparatesUptoRow.holds Tryd.pinned (OpenSpec.upto renewSeparatesSpec)

end Rows
end Go.Proofs.YtmkphnlpbngenaaDoor

/-
  NARROWER THAN 'FOR EVERY INPUT', by the rows' own cells (each row's printed sentence says how): SplitSharesAsSpecified: laid · SplitJoinsAsSpecified: laid · SplitCorrectsAsSpecified: laid · SplitRestores: laid · SplitCountsExactly: laid · SplitCorrects: laid · SplitAdds: laid · SplitHides: laid.
  DERIVED. THE GIVEN ROWS OF THIS SEAT. 8 by the template 'for every input the law returns true; each argument reads behind the call as it read before'; 0 by the template 'total and deterministic' (their statements: YtakbedmeieeekaaDoorTotals.lean).
  GIVEN WITH THE SEED: the statements are not yours to turn. If you find one false, say at which input.
  Laid BY PROGRAM, IN A SANDBOX (cutbox-rows.mjs): the forced cells as the released guide's own fill.sh prints them over the translation 8ba1edb61d2f4b3a… (all of the seat's roots in one cut). By AI agents, Wed Nov 11 2026. No macro, syntax, notation, axiom, sorry.
-/
import Derived.Test.YtakbedmeieeekaaDoorChecked
import GoSem.Claim
import GoSem.ClaimJoined
import GoSem.ClaimMapViews
import Derived.JoinedTies
import Derived.KernelRfl
namespace Go.Proofs.YtakbedmeieeekaaDoor
/- THE CELL 'sum', in the pinned program and in every row, IS THE sha256 OF THE DUMP (.gsa) THAT YtakbedmeieeekaaDoorProg.lean LOADS. Nothing in Lean hashes anything: it is a label: what it is worth is what the hold of that sum in a sandbox is worth. -/
noncomputable def Tryd.pinned : Pinned := { name := "ytakbedmeieeekaadoor", sum := "8ba1edb61d2f4b3aa533d58a0df2193795e3743b6541235e1274760acc364d9b", checked := Tryd.checked }
namespace Rows
def none {H : Type} : Left H := { results := [], args := [] }

/- WHAT THE LISTED PACKAGE-LEVEL VARIABLES READ AS WHEN THE CALL BEGINS. Each datum BY PROGRAM (the guide's laid-datum.mjs) off the statement by which the dump's own 'gosem.cut.vars' lays the variable. In a bare row this is a premise. The card (YtakbedmeieeekaaDoorCards.lean) ties it to the program's text. -/
def laid_quietus_gf_high {H : Type} : DataW H := .agg [.lit (.int .u8 0), .lit (.int .u8 29), .lit (.int .u8 58), .lit (.int .u8 39), .lit (.int .u8 116), .lit (.int .u8 105), .lit (.int .u8 78), .lit (.int .u8 83), .lit (.int .u8 232), .lit (.int .u8 245), .lit (.int .u8 210), .lit (.int .u8 207), .lit (.int .u8 156), .lit (.int .u8 129), .lit (.int .u8 166), .lit (.int .u8 187)]

/-- 'quietuslaw26.SplitSharesAsSpecified': WHATEVER THE INPUT: true; the input reads as it did. -/
def splitSharesAsSpecifiedSpec : ChangeSpec := { name := "splitSharesAsSpecified", fn := fun _ => fun
  | [d] => { results := [.lit (.bool true)], args := [d] }
  | _ => none }
def splitSharesAsSpecifiedRow : OpenClaim := { program := "ytakbedmeieeekaadoor", sum := "8ba1edb61d2f4b3aa533d58a0df2193795e3743b6541235e1274760acc364d9b", func := "quietus/quietuslaw26.SplitSharesAsSpecified", spec := "splitSharesAsSpecified", unfollowed := true, recurses := true, named := ["quietus/gf.high"], apart := false, laid := [("quietus/gf.high", laid_quietus_gf_high)] }
def SplitSharesAsSpecifiedSaid : Prop := splitSharesAsSpecifiedRow.holds Tryd.pinned (OpenSpec.ofChange splitSharesAsSpecifiedSpec)

/-- ITS FALSE NEIGHBOUR: 'it returns false'. Refute it at one input. -/
def splitSharesAsSpecifiedWrong : ChangeSpec := { name := "splitSharesAsSpecified", fn := fun _ => fun
  | [d] => { results := [.lit (.bool false)], args := [d] }
  | _ => none }
def SplitSharesAsSpecifiedWrongFalsely : Prop := splitSharesAsSpecifiedRow.holds Tryd.pinned (OpenSpec.ofChange splitSharesAsSpecifiedWrong)

/-- 'quietuslaw26.SplitJoinsAsSpecified': WHATEVER THE INPUT: true; the input reads as it did. -/
def splitJoinsAsSpecifiedSpec : ChangeSpec := { name := "splitJoinsAsSpecified", fn := fun _ => fun
  | [d1, d2, d3] => { results := [.lit (.bool true)], args := [d1, d2, d3] }
  | _ => none }
def splitJoinsAsSpecifiedRow : OpenClaim := { program := "ytakbedmeieeekaadoor", sum := "8ba1edb61d2f4b3aa533d58a0df2193795e3743b6541235e1274760acc364d9b", func := "quietus/quietuslaw26.SplitJoinsAsSpecified", spec := "splitJoinsAsSpecified", unfollowed := true, recurses := true, named := ["quietus/gf.high"], apart := false, laid := [("quietus/gf.high", laid_quietus_gf_high)] }
def SplitJoinsAsSpecifiedSaid : Prop := splitJoinsAsSpecifiedRow.holds Tryd.pinned (OpenSpec.ofChange splitJoinsAsSpecifiedSpec)

/-- ITS FALSE NEIGHBOUR: 'it returns false'. Refute it at one input. -/
def splitJoinsAsSpecifiedWrong : ChangeSpec := { name := "splitJoinsAsSpecified", fn := fun _ => fun
  | [d1, d2, d3] => { results := [.lit (.bool false)], args := [d1, d2, d3] }
  | _ => none }
def SplitJoinsAsSpecifiedWrongFalsely : Prop := splitJoinsAsSpecifiedRow.holds Tryd.pinned (OpenSpec.ofChange splitJoinsAsSpecifiedWrong)

/-- 'quietuslaw26.SplitCorrectsAsSpecified': WHATEVER THE INPUT: true; the input reads as it did. -/
def splitCorrectsAsSpecifiedSpec : ChangeSpec := { name := "splitCorrectsAsSpecified", fn := fun _ => fun
  | [d1, d2] => { results := [.lit (.bool true)], args := [d1, d2] }
  | _ => none }
def splitCorrectsAsSpecifiedRow : OpenClaim := { program := "ytakbedmeieeekaadoor", sum := "8ba1edb61d2f4b3aa533d58a0df2193795e3743b6541235e1274760acc364d9b", func := "quietus/quietuslaw26.SplitCorrectsAsSpecified", spec := "splitCorrectsAsSpecified", unfollowed := true, recurses := true, named := ["quietus/gf.high"], apart := false, laid := [("quietus/gf.high", laid_quietus_gf_high)] }
def SplitCorrectsAsSpecifiedSaid : Prop := splitCorrectsAsSpecifiedRow.holds Tryd.pinned (OpenSpec.ofChange splitCorrectsAsSpecifiedSpec)

/-- ITS FALSE NEIGHBOUR: 'it returns false'. Refute it at one input. -/
def splitCorrectsAsSpecifiedWrong : ChangeSpec := { name := "splitCorrectsAsSpecified", fn := fun _ => fun
  | [d1, d2] => { results := [.lit (.bool false)], args := [d1, d2] }
  | _ => none }
def SplitCorrectsAsSpecifiedWrongFalsely : Prop := splitCorrectsAsSpecifiedRow.holds Tryd.pinned (OpenSpec.ofChange splitCorrectsAsSpecifiedWrong)

/-- 'quietuslaw26.SplitRestores': WHATEVER THE INPUT: true; the input reads as it did. -/
def splitRestoresSpec : ChangeSpec := { name := "splitRestores", fn := fun _ => fun
  | [d1, d2, d3] => { results := [.lit (.bool true)], args := [d1, d2, d3] }
  | _ => none }
def splitRestoresRow : OpenClaim := { program := "ytakbedmeieeekaadoor", sum := "8ba1edb61d2f4b3aa533d58a0df2193795e3743b6541235e1274760acc364d9b", func := "quietus/quietuslaw26.SplitRestores", spec := "splitRestores", unfollowed := true, recurses := true, named := ["quietus/gf.high"], apart := false, laid := [("quietus/gf.high", laid_quietus_gf_high)] }
def SplitRestoresSaid : Prop := splitRestoresRow.holds Tryd.pinned (OpenSpec.ofChange splitRestoresSpec)

/-- ITS FALSE NEIGHBOUR: 'it returns false'. Refute it at one input. -/
def splitRestoresWrong : ChangeSpec := { name := "splitRestores", fn := fun _ => fun
  | [d1, d2, d3] => { results := [.lit (.bool false)], args := [d1, d2, d3] }
  | _ => none }
def SplitRestoresWrongFalsely : Prop := splitRestoresRow.holds Tryd.pinned (OpenSpec.ofChange splitRestoresWrong)

/-- 'quietuslaw26.SplitCountsExactly': WHATEVER THE INPUT: true; the input reads as it did. -/
def splitCountsExactlySpec : ChangeSpec := { name := "splitCountsExactly", fn := fun _ => fun
  | [d1, d2, d3] => { results := [.lit (.bool true)], args := [d1, d2, d3] }
  | _ => none }
def splitCountsExactlyRow : OpenClaim := { program := "ytakbedmeieeekaadoor", sum := "8ba1edb61d2f4b3aa533d58a0df2193795e3743b6541235e1274760acc364d9b", func := "quietus/quietuslaw26.SplitCountsExactly", spec := "splitCountsExactly", unfollowed := true, recurses := true, named := ["quietus/gf.high"], apart := false, laid := [("quietus/gf.high", laid_quietus_gf_high)] }
def SplitCountsExactlySaid : Prop := splitCountsExactlyRow.holds Tryd.pinned (OpenSpec.ofChange splitCountsExactlySpec)

/-- ITS FALSE NEIGHBOUR: 'it returns false'. Refute it at one input. -/
def splitCountsExactlyWrong : ChangeSpec := { name := "splitCountsExactly", fn := fun _ => fun
  | [d1, d2, d3] => { results := [.lit (.bool false)], args := [d1, d2, d3] }
  | _ => none }
def SplitCountsExactlyWrongFalsely : Prop := splitCountsExactlyRow.holds Tryd.pinned (OpenSpec.ofChange splitCountsExactlyWrong)

/-- 'quietuslaw26.SplitCorrects': WHATEVER THE INPUT: true; the input reads as it did. -/
def splitCorrectsSpec : ChangeSpec := { name := "splitCorrects", fn := fun _ => fun
  | [d1, d2, d3] => { results := [.lit (.bool true)], args := [d1, d2, d3] }
  | _ => none }
def splitCorrectsRow : OpenClaim := { program := "ytakbedmeieeekaadoor", sum := "8ba1edb61d2f4b3aa533d58a0df2193795e3743b6541235e1274760acc364d9b", func := "quietus/quietuslaw26.SplitCorrects", spec := "splitCorrects", unfollowed := true, recurses := true, named := ["quietus/gf.high"], apart := false, laid := [("quietus/gf.high", laid_quietus_gf_high)] }
def SplitCorrectsSaid : Prop := splitCorrectsRow.holds Tryd.pinned (OpenSpec.ofChange splitCorrectsSpec)

/-- ITS FALSE NEIGHBOUR: 'it returns false'. Refute it at one input. -/
def splitCorrectsWrong : ChangeSpec := { name := "splitCorrects", fn := fun _ => fun
  | [d1, d2, d3] => { results := [.lit (.bool false)], args := [d1, d2, d3] }
  | _ => none }
def SplitCorrectsWrongFalsely : Prop := splitCorrectsRow.holds Tryd.pinned (OpenSpec.ofChange splitCorrectsWrong)

/-- 'quietuslaw26.SplitAdds': WHATEVER THE INPUT: true; the input reads as it did. -/
def splitAddsSpec : ChangeSpec := { name := "splitAdds", fn := fun _ => fun
  | [d1, d2, d3] => { results := [.lit (.bool true)], args := [d1, d2, d3] }
  | _ => none }
def splitAddsRow : OpenClaim := { program := "ytakbedmeieeekaadoor", sum := "8ba1edb61d2f4b3aa533d58a0df2193795e3743b6541235e1274760acc364d9b", func := "quietus/quietuslaw26.SplitAdds", spec := "splitAdds", unfollowed := true, recurses := true, named := ["quietus/gf.high"], apart := false, laid := [("quietus/gf.high", laid_quietus_gf_high)] }
def SplitAddsSaid : Prop := splitAddsRow.holds Tryd.pinned (OpenSpec.ofChange splitAddsSpec)

/-- ITS FALSE NEIGHBOUR: 'it returns false'. Refute it at one input. -/
def splitAddsWrong : ChangeSpec := { name := "splitAdds", fn := fun _ => fun
  | [d1, d2, d3] => { results := [.lit (.bool false)], args := [d1, d2, d3] }
  | _ => none }
def SplitAddsWrongFalsely : Prop := splitAddsRow.holds Tryd.pinned (OpenSpec.ofChange splitAddsWrong)

/-- 'quietuslaw26.SplitHides': WHATEVER THE INPUT: true; the input reads as it did. -/
def splitHidesSpec : ChangeSpec := { name := "splitHides", fn := fun _ => fun
  | [d1, d2, d3] => { results := [.lit (.bool true)], args := [d1, d2, d3] }
  | _ => none }
def splitHidesRow : OpenClaim := { program := "ytakbedmeieeekaadoor", sum := "8ba1edb61d2f4b3aa533d58a0df2193795e3743b6541235e1274760acc364d9b", func := "quietus/quietuslaw26.SplitHides", spec := "splitHides", unfollowed := true, recurses := true, named := ["quietus/gf.high"], apart := false, laid := [("quietus/gf.high", laid_quietus_gf_high)] }
def SplitHidesSaid : Prop := splitHidesRow.holds Tryd.pinned (OpenSpec.ofChange splitHidesSpec)

/-- ITS FALSE NEIGHBOUR: 'it returns false'. Refute it at one input. -/
def splitHidesWrong : ChangeSpec := { name := "splitHides", fn := fun _ => fun
  | [d1, d2, d3] => { results := [.lit (.bool false)], args := [d1, d2, d3] }
  | _ => none }
def SplitHidesWrongFalsely : Prop := splitHidesRow.holds Tryd.pinned (OpenSpec.ofChange splitHidesWrong)

/- THE SECOND FORM. 'bulk': how many values and letters a reading holds, each counted each time it is reached (what is shared counts as often as it is met; a slice's spare places count too). A statement '..UptoSaid' is the law's where the arguments, and the package variables that the reading takes, are together of bulk at most 1048576: NARROWER than '..Said'. Prove '..Said' where nothing that the law and all that it calls make is longer than what came in: it says more and counts as full. Else prove '..UptoSaid'. A law counts once. -/
mutual
def uptoBulk {H : Type} : DataW H → Nat
  | .lit (.string bytes) => bytes.length + 1
  | .lit _ => 1
  | .nil => 1
  | .ptr d => uptoBulk d + 1
  | .slice elems spare => uptoBulkAll elems + uptoBulkAll spare + 1
  | .agg parts => uptoBulkAll parts + 1
  | .iface _ d => uptoBulk d + 1
  | .map entries => uptoBulkEntries entries + 1
  | .held _ => 1
def uptoBulkAll {H : Type} : List (DataW H) → Nat
  | [] => 0
  | d :: r => uptoBulk d + uptoBulkAll r
def uptoBulkEntries {H : Type} : List (Lit × DataW H) → Nat
  | [] => 0
  | x :: r => uptoBulkEntry x + uptoBulkEntries r
def uptoBulkEntry {H : Type} : Lit × DataW H → Nat
  | (.string bytes, d) => bytes.length + uptoBulk d + 1
  | (_, d) => uptoBulk d + 1
 end
def uptoSmall : (H : Type) → List (DataW H) → Bool := fun _ ds => decide (uptoBulkAll ds ≤ 1048576)
def OpenSpec.upto (s : _root_.Go.ChangeSpec) : _root_.Go.OpenSpec := { _root_.Go.OpenSpec.ofChange s with cond := some uptoSmall }

/-- 'quietuslaw26.SplitSharesAsSpecified', WHERE WHAT IT READS IS OF BULK AT MOST 1048576: true; the input reads as it did. -/
def splitSharesAsSpecifiedUptoRow : OpenClaim := { program := "ytakbedmeieeekaadoor", sum := "8ba1edb61d2f4b3aa533d58a0df2193795e3743b6541235e1274760acc364d9b", func := "quietus/quietuslaw26.SplitSharesAsSpecified", spec := "splitSharesAsSpecified", unfollowed := true, recurses := true, named := ["quietus/gf.high"], apart := false, laid := [("quietus/gf.high", laid_quietus_gf_high)], narrowed := true }
def SplitSharesAsSpecifiedUptoSaid : Prop := splitSharesAsSpecifiedUptoRow.holds Tryd.pinned (OpenSpec.upto splitSharesAsSpecifiedSpec)

/-- 'quietuslaw26.SplitJoinsAsSpecified', WHERE WHAT IT READS IS OF BULK AT MOST 1048576: true; the input reads as it did. -/
def splitJoinsAsSpecifiedUptoRow : OpenClaim := { program := "ytakbedmeieeekaadoor", sum := "8ba1edb61d2f4b3aa533d58a0df2193795e3743b6541235e1274760acc364d9b", func := "quietus/quietuslaw26.SplitJoinsAsSpecified", spec := "splitJoinsAsSpecified", unfollowed := true, recurses := true, named := ["quietus/gf.high"], apart := false, laid := [("quietus/gf.high", laid_quietus_gf_high)], narrowed := true }
def SplitJoinsAsSpecifiedUptoSaid : Prop := splitJoinsAsSpecifiedUptoRow.holds Tryd.pinned (OpenSpec.upto splitJoinsAsSpecifiedSpec)

/-- 'quietuslaw26.SplitCorrectsAsSpecified', WHERE WHAT IT READS IS OF BULK AT MOST 1048576: true; the input reads as it did. -/
def splitCorrectsAsSpecifiedUptoRow : OpenClaim := { program := "ytakbedmeieeekaadoor", sum := "8ba1edb61d2f4b3aa533d58a0df2193795e3743b6541235e1274760acc364d9b", func := "quietus/quietuslaw26.SplitCorrectsAsSpecified", spec := "splitCorrectsAsSpecified", unfollowed := true, recurses := true, named := ["quietus/gf.high"], apart := false, laid := [("quietus/gf.high", laid_quietus_gf_high)], narrowed := true }
def SplitCorrectsAsSpecifiedUptoSaid : Prop := splitCorrectsAsSpecifiedUptoRow.holds Tryd.pinned (OpenSpec.upto splitCorrectsAsSpecifiedSpec)

/-- 'quietuslaw26.SplitRestores', WHERE WHAT IT READS IS OF BULK AT MOST 1048576: true; the input reads as it did. -/
def splitRestoresUptoRow : OpenClaim := { program := "ytakbedmeieeekaadoor", sum := "8ba1edb61d2f4b3aa533d58a0df2193795e3743b6541235e1274760acc364d9b", func := "quietus/quietuslaw26.SplitRestores", spec := "splitRestores", unfollowed := true, recurses := true, named := ["quietus/gf.high"], apart := false, laid := [("quietus/gf.high", laid_quietus_gf_high)], narrowed := true }
def SplitRestoresUptoSaid : Prop := splitRestoresUptoRow.holds Tryd.pinned (OpenSpec.upto splitRestoresSpec)

/-- 'quietuslaw26.SplitCountsExactly', WHERE WHAT IT READS IS OF BULK AT MOST 1048576: true; the input reads as it did. -/
def splitCountsExactlyUptoRow : OpenClaim := { program := "ytakbedmeieeekaadoor", sum := "8ba1edb61d2f4b3aa533d58a0df2193795e3743b6541235e1274760acc364d9b", func := "quietus/quietuslaw26.SplitCountsExactly", spec := "splitCountsExactly", unfollowed := true, recurses := true, named := ["quietus/gf.high"], apart := false, laid := [("quietus/gf.high", laid_quietus_gf_high)], narrowed := true }
def SplitCountsExactlyUptoSaid : Prop := splitCountsExactlyUptoRow.holds Tryd.pinned (OpenSpec.upto splitCountsExactlySpec)

/-- 'quietuslaw26.SplitCorrects', WHERE WHAT IT READS IS OF BULK AT MOST 1048576: true; the input reads as it did. -/
def splitCorrectsUptoRow : OpenClaim := { program := "ytakbedmeieeekaadoor", sum := "8ba1edb61d2f4b3aa533d58a0df2193795e3743b6541235e1274760acc364d9b", func := "quietus/quietuslaw26.SplitCorrects", spec := "splitCorrects", unfollowed := true, recurses := true, named := ["quietus/gf.high"], apart := false, laid := [("quietus/gf.high", laid_quietus_gf_high)], narrowed := true }
def SplitCorrectsUptoSaid : Prop := splitCorrectsUptoRow.holds Tryd.pinned (OpenSpec.upto splitCorrectsSpec)

/-- 'quietuslaw26.SplitAdds', WHERE WHAT IT READS IS OF BULK AT MOST 1048576: true; the input reads as it did. -/
def splitAddsUptoRow : OpenClaim := { program := "ytakbedmeieeekaadoor", sum := "8ba1edb61d2f4b3aa533d58a0df2193795e3743b6541235e1274760acc364d9b", func := "quietus/quietuslaw26.SplitAdds", spec := "splitAdds", unfollowed := true, recurses := true, named := ["quietus/gf.high"], apart := false, laid := [("quietus/gf.high", laid_quietus_gf_high)], narrowed := true }
def SplitAddsUptoSaid : Prop := splitAddsUptoRow.holds Tryd.pinned (OpenSpec.upto splitAddsSpec)

/-- 'quietuslaw26.SplitHides', WHERE WHAT IT READS IS OF BULK AT MOST 1048576: true; the input reads as it did. -/
def splitHidesUptoRow : OpenClaim := { program := "ytakbedmeieeekaadoor", sum := "8ba1edb61d2f4b3aa533d58a0df2193795e3743b6541235e1274760acc364d9b", func := "quietus/quietuslaw26.SplitHides", spec := "splitHides", unfollowed := true, recurses := true, named := ["quietus/gf.high"], apart := false, laid := [("quietus/gf.high", laid_quietus_gf_high)], narrowed := true }
def SplitHidesUptoSaid : Prop := splitHidesUptoRow.holds Tryd.pinned (OpenSpec.upto splitHidesSpec)

end Rows
end Go.Proofs.YtakbedmeieeekaaDoor

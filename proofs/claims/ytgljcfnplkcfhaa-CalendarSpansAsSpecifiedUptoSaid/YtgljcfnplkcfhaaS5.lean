/- Texts of this claim: S29.L2, S29.Cd0. -/
import Derived.Test.YtgljcfnplkcfhaaS4
import Derived.Test.YtgljcfnplkcfhaaRows
import Derived.WalkKit
import Derived.ProofKit
import Derived.OpenShut
import Derived.Deep.DeepHandedRow
import Derived.Lib.LaidTab
import Derived.Test.YtgljcfnplkcfhaaVc6
import Derived.Test.YtgljcfnplkcfhaaS0
set_option linter.unusedVariables false
set_option linter.unusedSimpArgs false
namespace Go.Proofs.Ytgljcfnplkcfhaa.S29
open Go Go.Proofs.Ytgljcfnplkcfhaa.Vc Go.Proofs
set_option maxRecDepth 100000
set_option linter.unusedVariables false

def sLSpans : List V → Option (Prop × V × List Blk)
  | [.agg [.int .i64 b, .int .i64 l, .int .i64 d, .int .i64 m, .sl false (.int .i64) hs], .dat false (.arr 3 (.int .i64)) nu] => some (hs.length ≤ 1048576 ∧ nu.length = 3, .b True, [])
  | _ => none
set_option maxHeartbeats 4000000 in
theorem bLSpans (b : Int) (l : Int) (d : Int) (m : Int) (hs : List Int) (nu : List Int) (hp0 : hs.length ≤ 1048576) (hp1 : nu.length = 3) : bodyP (En CSan tys [] QAt) Try.f3 [.k] [.agg [.int .i64 b, .int .i64 l, .int .i64 d, .int .i64 m, .sl false (.int .i64) hs], .dat false (.arr 3 (.int .i64)) nu] (.b True) [] := by
  have hel := extH_len b l d m hs (nu.getD 2 0)
  refine ⟨⟨rfl, by first | assumption | simp⟩ /- o0 -/, rfl /- o1 -/, rfl /- o2 -/, rfl /- o3 -/, rfl /- o4 -/, rfl /- o5 -/, by show hs.length ≤ 2000000; first | omega | assumption /- o6 -/, fun h0 => ?_, fun h0 => ?_⟩
  · replace h0 : ¬ (fewP b l d m hs 60) := h0  -- 0t
    refine ⟨trivial /- o7 -/, ?_⟩
    -- leaf 0: ['.b True'] | ['.cells [.int .i64 b, .int .i64 l, .int .i64 d, .int .i64 m, .sl false (.int .i64) hs]', '.row true (.int .i64) nu']
    exact ⟨rfl, rfl, congrArg V.b (propext ⟨fun _ => trivial, fun _ => by first | trivial | rfl⟩), rfl⟩
  · replace h0 : ¬ (¬ (fewP b l d m hs 60)) := h0  -- 0f
    refine ⟨⟨by show (0 : Int) ≤ 0; omega, by show 0 < (3 : Int); omega, by first | assumption | simp⟩ /- o8 -/, rfl /- o9 -/, rfl /- o10 -/, rfl /- o11 -/, rfl /- o12 -/, rfl /- o13 -/, by show hs.length ≤ 2000000; first | omega | assumption /- o14 -/, ⟨by show (0 : Int) ≤ 0; omega, by show 0 < (3 : Int); omega, by first | assumption | simp⟩ /- o15 -/, rfl /- o16 -/, rfl /- o17 -/, rfl /- o18 -/, rfl /- o19 -/, rfl /- o20 -/, by show hs.length ≤ 2000000; first | omega | assumption /- o21 -/, ⟨rfl, rfl, rfl, Nat.le_of_ble_eq_true rfl⟩ /- o22 -/, ⟨by show (0 : Int) ≤ 0; omega, by show 0 < (3 : Int); omega, by first | assumption | simp⟩ /- o23 -/, rfl /- o24 -/, rfl /- o25 -/, rfl /- o26 -/, rfl /- o27 -/, rfl /- o28 -/, by show hs.length ≤ 2000000; first | omega | assumption /- o29 -/, ⟨by show (0 : Int) ≤ 0; omega, by show 0 < (3 : Int); omega, by first | assumption | simp⟩ /- o30 -/, rfl /- o31 -/, rfl /- o32 -/, rfl /- o33 -/, rfl /- o34 -/, rfl /- o35 -/, by show hs.length ≤ 2000000; first | omega | assumption /- o36 -/, ⟨rfl, rfl, rfl, Nat.le_of_ble_eq_true rfl⟩ /- o37 -/, ⟨by show (0 : Int) ≤ 2; omega, by show 2 < (3 : Int); omega, by first | assumption | simp⟩ /- o38 -/, rfl /- o39 -/, rfl /- o40 -/, rfl /- o41 -/, rfl /- o42 -/, rfl /- o43 -/, by show hs.length ≤ 2000000; first | omega | assumption /- o44 -/, ⟨rfl, rfl, rfl, Nat.le_of_ble_eq_true rfl⟩ /- o45 -/, ⟨by show (0 : Int) ≤ 2; omega, by show 2 < (3 : Int); omega, by first | assumption | simp⟩ /- o46 -/, rfl /- o47 -/, rfl /- o48 -/, rfl /- o49 -/, rfl /- o50 -/, rfl /- o51 -/, by show hs.length ≤ 2000000; first | omega | assumption /- o52 -/, ⟨rfl, rfl, rfl, Nat.le_of_ble_eq_true rfl⟩ /- o53 -/, fun h1 => ?_, fun h1 => absurd h1 (show ¬ ((if askL b l d m hs (nu.getD 0 0) = 0 then spanF b d (nu.getD 0 0) else 0) ≠ (if askL b l d m hs (nu.getD 0 0) = 0 then spanF b d (nu.getD 0 0) else 0)) by first | trivial | rfl | exact fun h => h rfl | exact fun h => h ⟨rfl, rfl, rfl, rfl, rfl⟩ | exact if_pos h9 | exact if_neg h9)⟩
    refine ⟨fun h2 => ?_, fun h2 => absurd h2 (show ¬ ((if askL b l d m hs (nu.getD 0 0) = 0 then spanT b l d (nu.getD 0 0) else 0) ≠ (if askL b l d m hs (nu.getD 0 0) = 0 then spanT b l d (nu.getD 0 0) else 0)) by first | trivial | rfl | exact fun h => h rfl | exact fun h => h ⟨rfl, rfl, rfl, rfl, rfl⟩ | exact if_pos h9 | exact if_neg h9)⟩
    refine ⟨fun h3 => ?_, fun h3 => absurd h3 (show ¬ ((askL b l d m hs (nu.getD 0 0)) ≠ (askL b l d m hs (nu.getD 0 0))) by first | trivial | rfl | exact fun h => h rfl | exact fun h => h ⟨rfl, rfl, rfl, rfl, rfl⟩ | exact if_pos h9 | exact if_neg h9)⟩
    refine ⟨fun h4 => ?_, fun h4 => absurd h4 (show ¬ ((if askL b l d m hs (nu.getD 0 0) = 0 then expF b d (nu.getD 0 0) else 0) ≠ (if askL b l d m hs (nu.getD 0 0) = 0 then expF b d (nu.getD 0 0) else 0)) by first | trivial | rfl | exact fun h => h rfl | exact fun h => h ⟨rfl, rfl, rfl, rfl, rfl⟩ | exact if_pos h9 | exact if_neg h9)⟩
    refine ⟨fun h5 => ?_, fun h5 => absurd h5 (show ¬ ((if askL b l d m hs (nu.getD 0 0) = 0 then expT b l d (nu.getD 0 0) else 0) ≠ (if askL b l d m hs (nu.getD 0 0) = 0 then expT b l d (nu.getD 0 0) else 0)) by first | trivial | rfl | exact fun h => h rfl | exact fun h => h ⟨rfl, rfl, rfl, rfl, rfl⟩ | exact if_pos h9 | exact if_neg h9)⟩
    refine ⟨fun h6 => ?_, fun h6 => absurd h6 (show ¬ ((askL b l d m hs (nu.getD 0 0)) ≠ (askL b l d m hs (nu.getD 0 0))) by first | trivial | rfl | exact fun h => h rfl | exact fun h => h ⟨rfl, rfl, rfl, rfl, rfl⟩ | exact if_pos h9 | exact if_neg h9)⟩
    refine ⟨fun h7 => ?_, fun h7 => absurd h7 (show ¬ ((extE b l d m hs (nu.getD 2 0)) ≠ (extE b l d m hs (nu.getD 2 0))) by first | trivial | rfl | exact fun h => h rfl | exact fun h => h ⟨rfl, rfl, rfl, rfl, rfl⟩ | exact if_pos h9 | exact if_neg h9)⟩
    refine ⟨rfl /- o54 -/, rfl /- o55 -/, rfl /- o56 -/, rfl /- o57 -/, rfl /- o58 -/, rfl /- o59 -/, rfl /- o60 -/, rfl /- o61 -/, ⟨by show (extH b l d m hs (nu.getD 2 0)).length ≤ 2000000; first | omega | assumption /- o62 -/, by show (extH b l d m hs (nu.getD 2 0)).length ≤ 2000000; first | omega | assumption /- o63 -/⟩, fun h8 => absurd h8 (show ¬ (¬ ((extH b l d m hs (nu.getD 2 0)) = (extH b l d m hs (nu.getD 2 0)) ∧ (ext0 b l d m hs (nu.getD 2 0) b) = (ext0 b l d m hs (nu.getD 2 0) b) ∧ (ext0 b l d m hs (nu.getD 2 0) (nu.getD 2 0)) = (ext0 b l d m hs (nu.getD 2 0) (nu.getD 2 0)) ∧ (ext0 b l d m hs (nu.getD 2 0) d) = (ext0 b l d m hs (nu.getD 2 0) d) ∧ (ext0 b l d m hs (nu.getD 2 0) m) = (ext0 b l d m hs (nu.getD 2 0) m))) by first | trivial | rfl | exact fun h => h rfl | exact fun h => h ⟨rfl, rfl, rfl, rfl, rfl⟩ | exact if_pos h9 | exact if_neg h9), fun h8 => ?_⟩
    refine ⟨rfl /- o64 -/, rfl /- o65 -/, rfl /- o66 -/, rfl /- o67 -/, by show hs.length ≤ 2000000; first | omega | assumption /- o68 -/, fun h9 => ?_, fun h9 => ?_⟩
    · replace h9 : (chkL b l d m hs) = 0 := h9  -- 9t
      have hc := chk0 h9
      obtain ⟨q1, q2, q3, q4, q5, q6, q7, q8, q9, q10, q11⟩ := id hc
      refine ⟨rfl /- o69 -/, rfl /- o70 -/, rfl /- o71 -/, rfl /- o72 -/, ⟨by show 0 ≤ b; first | omega | assumption /- o73 -/, by show b ≤ l; first | omega | assumption /- o74 -/, by show l ≤ 1000000; first | omega | assumption /- o75 -/, by show 1 ≤ d; first | omega | assumption /- o76 -/⟩, by kernel_rfl /- o77 -/, trivial /- o78 -/, fun h10 => ?_, fun h10 => absurd (show True by first | trivial | rfl | exact fun h => h rfl | exact fun h => h ⟨rfl, rfl, rfl, rfl, rfl⟩ | exact if_pos h9 | exact if_neg h9) h10⟩
      refine ⟨fun h11 => ?_, fun h11 => absurd (show True by first | trivial | rfl | exact fun h => h rfl | exact fun h => h ⟨rfl, rfl, rfl, rfl, rfl⟩ | exact if_pos h9 | exact if_neg h9) h11⟩
      refine ⟨rfl /- o79 -/, rfl /- o80 -/, rfl /- o81 -/, rfl /- o82 -/, by show hs.length ≤ 2000000; first | omega | assumption /- o83 -/, fun h12 => ?_, fun h12 => absurd (show True by first | trivial | rfl | exact fun h => h rfl | exact fun h => h ⟨rfl, rfl, rfl, rfl, rfl⟩ | exact if_pos h9 | exact if_neg h9) h12⟩
      refine ⟨fun h13 => ?_, fun h13 => absurd (show True by first | trivial | rfl | exact fun h => h rfl | exact fun h => h ⟨rfl, rfl, rfl, rfl, rfl⟩ | exact if_pos h9 | exact if_neg h9) h13⟩
      refine ⟨fun h14 => ?_, fun h14 => absurd (show True by first | trivial | rfl | exact fun h => h rfl | exact fun h => h ⟨rfl, rfl, rfl, rfl, rfl⟩ | exact if_pos h9 | exact if_neg h9) h14⟩
      refine ⟨fun h15 => ?_, fun h15 => absurd (show (chkL b l d m hs) = (chkL b l d m hs) by first | trivial | rfl | exact fun h => h rfl | exact fun h => h ⟨rfl, rfl, rfl, rfl, rfl⟩ | exact if_pos h9 | exact if_neg h9) h15⟩
      refine ⟨fun h16 => ?_, fun h16 => absurd (show (chkL b l d m hs) = (chkL b l d m hs) by first | trivial | rfl | exact fun h => h rfl | exact fun h => h ⟨rfl, rfl, rfl, rfl, rfl⟩ | exact if_pos h9 | exact if_neg h9) h16⟩
      refine ⟨rfl /- o84 -/, rfl /- o85 -/, rfl /- o86 -/, rfl /- o87 -/, by show hs.length ≤ 2000000; first | omega | assumption /- o88 -/, fun h17 => ?_, fun h17 => absurd (show (chkL b l d m hs) = (chkL b l d m hs) by first | trivial | rfl | exact fun h => h rfl | exact fun h => h ⟨rfl, rfl, rfl, rfl, rfl⟩ | exact if_pos h9 | exact if_neg h9) h17⟩
      refine ⟨fun h18 => ?_, fun h18 => absurd (show (chkL b l d m hs) = (chkL b l d m hs) by first | trivial | rfl | exact fun h => h rfl | exact fun h => h ⟨rfl, rfl, rfl, rfl, rfl⟩ | exact if_pos h9 | exact if_neg h9) h18⟩
      refine ⟨fun h19 => ?_, fun h19 => absurd (show (chkL b l d m hs) = (chkL b l d m hs) by first | trivial | rfl | exact fun h => h rfl | exact fun h => h ⟨rfl, rfl, rfl, rfl, rfl⟩ | exact if_pos h9 | exact if_neg h9) h19⟩
      refine ⟨fun h20 => ?_, fun h20 => absurd (show (if chkL b l d m hs = 0 then cntL b l d else 0) = (cntL b l d) by first | trivial | rfl | exact fun h => h rfl | exact fun h => h ⟨rfl, rfl, rfl, rfl, rfl⟩ | exact if_pos h9 | exact if_neg h9) h20⟩
      refine ⟨fun h21 => ?_, fun h21 => absurd (show (if chkL b l d m hs = 0 then cntL b l d else 0) = (cntL b l d) by first | trivial | rfl | exact fun h => h rfl | exact fun h => h ⟨rfl, rfl, rfl, rfl, rfl⟩ | exact if_pos h9 | exact if_neg h9) h21⟩
      refine ⟨⟨by show (0 : Int) ≤ 1; omega, by show 1 < (3 : Int); omega, by first | assumption | simp⟩ /- o89 -/, fun h22 => ?_, fun h22 => absurd (show (if chkL b l d m hs = 0 then cntL b l d else 0) = (cntL b l d) by first | trivial | rfl | exact fun h => h rfl | exact fun h => h ⟨rfl, rfl, rfl, rfl, rfl⟩ | exact if_pos h9 | exact if_neg h9) h22⟩
      refine ⟨fun h23 => ?_, fun h23 => absurd (show (if chkL b l d m hs = 0 then cntL b l d else 0) = (cntL b l d) by first | trivial | rfl | exact fun h => h rfl | exact fun h => h ⟨rfl, rfl, rfl, rfl, rfl⟩ | exact if_pos h9 | exact if_neg h9) h23⟩
      refine ⟨rfl /- o90 -/, rfl /- o91 -/, rfl /- o92 -/, rfl /- o93 -/, rfl /- o94 -/, by show hs.length ≤ 2000000; first | omega | assumption /- o95 -/, fun h24 => ?_, fun h24 => absurd (show (if chkL b l d m hs = 0 then cntL b l d else 0) = (cntL b l d) by first | trivial | rfl | exact fun h => h rfl | exact fun h => h ⟨rfl, rfl, rfl, rfl, rfl⟩ | exact if_pos h9 | exact if_neg h9) h24⟩
      refine ⟨fun h25 => ?_, fun h25 => absurd (show (if chkL b l d m hs = 0 then cntL b l d else 0) = (cntL b l d) by first | trivial | rfl | exact fun h => h rfl | exact fun h => h ⟨rfl, rfl, rfl, rfl, rfl⟩ | exact if_pos h9 | exact if_neg h9) h25⟩
      refine ⟨⟨by show (0 : Int) ≤ 1; omega, by show 1 < (3 : Int); omega, by first | assumption | simp⟩ /- o96 -/, fun h26 => ?_, fun h26 => absurd (show (if chkL b l d m hs = 0 then cntL b l d else 0) = (cntL b l d) by first | trivial | rfl | exact fun h => h rfl | exact fun h => h ⟨rfl, rfl, rfl, rfl, rfl⟩ | exact if_pos h9 | exact if_neg h9) h26⟩
      refine ⟨fun h27 => ?_, fun h27 => absurd (show (if chkL b l d m hs = 0 then cntL b l d else 0) = (cntL b l d) by first | trivial | rfl | exact fun h => h rfl | exact fun h => h ⟨rfl, rfl, rfl, rfl, rfl⟩ | exact if_pos h9 | exact if_neg h9) h27⟩
      refine ⟨rfl /- o97 -/, rfl /- o98 -/, rfl /- o99 -/, rfl /- o100 -/, rfl /- o101 -/, by show hs.length ≤ 2000000; first | omega | assumption /- o102 -/, fun h28 => ?_, fun h28 => absurd (show (if chkL b l d m hs = 0 then cntL b l d else 0) = (cntL b l d) by first | trivial | rfl | exact fun h => h rfl | exact fun h => h ⟨rfl, rfl, rfl, rfl, rfl⟩ | exact if_pos h9 | exact if_neg h9) h28⟩
      refine ⟨fun h29 => ?_, fun h29 => absurd (show (if chkL b l d m hs = 0 then cntL b l d else 0) = (cntL b l d) by first | trivial | rfl | exact fun h => h rfl | exact fun h => h ⟨rfl, rfl, rfl, rfl, rfl⟩ | exact if_pos h9 | exact if_neg h9) h29⟩
      -- leaf 1: ['.b ((perL b l d m hs (nu.getD 1 0)) = (perL b l d m hs (nu.getD 1 0)))'] | ['.cells [.int .i64 b, .int .i64 l, .int .i64 d, .int .i64 m, .sl false (.int .i64) hs]', '.row true (.int .i64) nu', '.cells [.int .i64 (if askL b l d m hs (nu.getD 0 0) = 0 then spanF b d (nu.getD 0 0) else 0), .int .i64 (if askL b l d m hs (nu.getD 0 0) = 0 then spanT b l d (nu.getD 0 0) else 0), .int .i64 (askL b l d m hs (nu.getD 0 0))]', '.cells [.int .i64 (if askL b l d m hs (nu.getD 0 0) = 0 then expF b d (nu.getD 0 0) else 0), .int .i64 (if askL b l d m hs (nu.getD 0 0) = 0 then expT b l d (nu.getD 0 0) else 0), .int .i64 (askL b l d m hs (nu.getD 0 0))]', '.row true (.int .i64) (extH b l d m hs (nu.getD 2 0))', '.cells [.int .i64 (ext0 b l d m hs (nu.getD 2 0) b), .int .i64 (ext0 b l d m hs (nu.getD 2 0) (nu.getD 2 0)), .int .i64 (ext0 b l d m hs (nu.getD 2 0) d), .int .i64 (ext0 b l d m hs (nu.getD 2 0) m), .own (.int .i64) 4]', '.cells [.int .i64 (ext0 b l d m hs (nu.getD 2 0) b), .int .i64 (ext0 b l d m hs (nu.getD 2 0) (nu.getD 2 0)), .int .i64 (ext0 b l d m hs (nu.getD 2 0) d), .int .i64 (ext0 b l d m hs (nu.getD 2 0) m), .sl (extR {b} {l} {d} {m} {hs} {x}) (.int .i64) (extH b l d m hs (nu.getD 2 0)), .int .i64 (extE b l d m hs (nu.getD 2 0))]']
      exact ⟨rfl, rfl, congrArg V.b (propext ⟨fun _ => trivial, fun _ => by first | trivial | rfl⟩), rfl⟩
    · replace h9 : ¬ ((chkL b l d m hs) = 0) := h9  -- 9f
      refine ⟨by kernel_rfl /- o103 -/, trivial /- o104 -/, fun h30 => ?_, fun h30 => absurd (show True by first | trivial | rfl | exact fun h => h rfl | exact fun h => h ⟨rfl, rfl, rfl, rfl, rfl⟩ | exact if_pos h9 | exact if_neg h9) h30⟩
      refine ⟨fun h31 => ?_, fun h31 => absurd (show True by first | trivial | rfl | exact fun h => h rfl | exact fun h => h ⟨rfl, rfl, rfl, rfl, rfl⟩ | exact if_pos h9 | exact if_neg h9) h31⟩
      refine ⟨rfl /- o105 -/, rfl /- o106 -/, rfl /- o107 -/, rfl /- o108 -/, by show hs.length ≤ 2000000; first | omega | assumption /- o109 -/, fun h32 => ?_, fun h32 => absurd (show True by first | trivial | rfl | exact fun h => h rfl | exact fun h => h ⟨rfl, rfl, rfl, rfl, rfl⟩ | exact if_pos h9 | exact if_neg h9) h32⟩
      refine ⟨fun h33 => ?_, fun h33 => absurd (show True by first | trivial | rfl | exact fun h => h rfl | exact fun h => h ⟨rfl, rfl, rfl, rfl, rfl⟩ | exact if_pos h9 | exact if_neg h9) h33⟩
      refine ⟨fun h34 => ?_, fun h34 => absurd (show True by first | trivial | rfl | exact fun h => h rfl | exact fun h => h ⟨rfl, rfl, rfl, rfl, rfl⟩ | exact if_pos h9 | exact if_neg h9) h34⟩
      refine ⟨fun h35 => ?_, fun h35 => absurd (show (chkL b l d m hs) = (chkL b l d m hs) by first | trivial | rfl | exact fun h => h rfl | exact fun h => h ⟨rfl, rfl, rfl, rfl, rfl⟩ | exact if_pos h9 | exact if_neg h9) h35⟩
      refine ⟨fun h36 => ?_, fun h36 => absurd (show (chkL b l d m hs) = (chkL b l d m hs) by first | trivial | rfl | exact fun h => h rfl | exact fun h => h ⟨rfl, rfl, rfl, rfl, rfl⟩ | exact if_pos h9 | exact if_neg h9) h36⟩
      refine ⟨rfl /- o110 -/, rfl /- o111 -/, rfl /- o112 -/, rfl /- o113 -/, by show hs.length ≤ 2000000; first | omega | assumption /- o114 -/, fun h37 => ?_, fun h37 => absurd (show (chkL b l d m hs) = (chkL b l d m hs) by first | trivial | rfl | exact fun h => h rfl | exact fun h => h ⟨rfl, rfl, rfl, rfl, rfl⟩ | exact if_pos h9 | exact if_neg h9) h37⟩
      refine ⟨fun h38 => ?_, fun h38 => absurd (show (chkL b l d m hs) = (chkL b l d m hs) by first | trivial | rfl | exact fun h => h rfl | exact fun h => h ⟨rfl, rfl, rfl, rfl, rfl⟩ | exact if_pos h9 | exact if_neg h9) h38⟩
      refine ⟨fun h39 => ?_, fun h39 => absurd (show (chkL b l d m hs) = (chkL b l d m hs) by first | trivial | rfl | exact fun h => h rfl | exact fun h => h ⟨rfl, rfl, rfl, rfl, rfl⟩ | exact if_pos h9 | exact if_neg h9) h39⟩
      refine ⟨fun h40 => ?_, fun h40 => absurd (show (if chkL b l d m hs = 0 then cntL b l d else 0) = 0 by first | trivial | rfl | exact fun h => h rfl | exact fun h => h ⟨rfl, rfl, rfl, rfl, rfl⟩ | exact if_pos h9 | exact if_neg h9) h40⟩
      refine ⟨fun h41 => ?_, fun h41 => absurd (show (if chkL b l d m hs = 0 then cntL b l d else 0) = 0 by first | trivial | rfl | exact fun h => h rfl | exact fun h => h ⟨rfl, rfl, rfl, rfl, rfl⟩ | exact if_pos h9 | exact if_neg h9) h41⟩
      refine ⟨⟨by show (0 : Int) ≤ 1; omega, by show 1 < (3 : Int); omega, by first | assumption | simp⟩ /- o115 -/, fun h42 => ?_, fun h42 => absurd (show (if chkL b l d m hs = 0 then cntL b l d else 0) = 0 by first | trivial | rfl | exact fun h => h rfl | exact fun h => h ⟨rfl, rfl, rfl, rfl, rfl⟩ | exact if_pos h9 | exact if_neg h9) h42⟩
      refine ⟨fun h43 => ?_, fun h43 => absurd (show (if chkL b l d m hs = 0 then cntL b l d else 0) = 0 by first | trivial | rfl | exact fun h => h rfl | exact fun h => h ⟨rfl, rfl, rfl, rfl, rfl⟩ | exact if_pos h9 | exact if_neg h9) h43⟩
      refine ⟨rfl /- o116 -/, rfl /- o117 -/, rfl /- o118 -/, rfl /- o119 -/, rfl /- o120 -/, by show hs.length ≤ 2000000; first | omega | assumption /- o121 -/, fun h44 => ?_, fun h44 => absurd (show (if chkL b l d m hs = 0 then cntL b l d else 0) = 0 by first | trivial | rfl | exact fun h => h rfl | exact fun h => h ⟨rfl, rfl, rfl, rfl, rfl⟩ | exact if_pos h9 | exact if_neg h9) h44⟩
      refine ⟨fun h45 => ?_, fun h45 => absurd (show (if chkL b l d m hs = 0 then cntL b l d else 0) = 0 by first | trivial | rfl | exact fun h => h rfl | exact fun h => h ⟨rfl, rfl, rfl, rfl, rfl⟩ | exact if_pos h9 | exact if_neg h9) h45⟩
      refine ⟨⟨by show (0 : Int) ≤ 1; omega, by show 1 < (3 : Int); omega, by first | assumption | simp⟩ /- o122 -/, fun h46 => ?_, fun h46 => absurd (show (if chkL b l d m hs = 0 then cntL b l d else 0) = 0 by first | trivial | rfl | exact fun h => h rfl | exact fun h => h ⟨rfl, rfl, rfl, rfl, rfl⟩ | exact if_pos h9 | exact if_neg h9) h46⟩
      refine ⟨fun h47 => ?_, fun h47 => absurd (show (if chkL b l d m hs = 0 then cntL b l d else 0) = 0 by first | trivial | rfl | exact fun h => h rfl | exact fun h => h ⟨rfl, rfl, rfl, rfl, rfl⟩ | exact if_pos h9 | exact if_neg h9) h47⟩
      refine ⟨rfl /- o123 -/, rfl /- o124 -/, rfl /- o125 -/, rfl /- o126 -/, rfl /- o127 -/, by show hs.length ≤ 2000000; first | omega | assumption /- o128 -/, fun h48 => ?_, fun h48 => absurd (show (if chkL b l d m hs = 0 then cntL b l d else 0) = 0 by first | trivial | rfl | exact fun h => h rfl | exact fun h => h ⟨rfl, rfl, rfl, rfl, rfl⟩ | exact if_pos h9 | exact if_neg h9) h48⟩
      refine ⟨fun h49 => ?_, fun h49 => absurd (show (if chkL b l d m hs = 0 then cntL b l d else 0) = 0 by first | trivial | rfl | exact fun h => h rfl | exact fun h => h ⟨rfl, rfl, rfl, rfl, rfl⟩ | exact if_pos h9 | exact if_neg h9) h49⟩
      -- leaf 2: ['.b ((perL b l d m hs (nu.getD 1 0)) = (perL b l d m hs (nu.getD 1 0)))'] | ['.cells [.int .i64 b, .int .i64 l, .int .i64 d, .int .i64 m, .sl false (.int .i64) hs]', '.row true (.int .i64) nu', '.cells [.int .i64 (if askL b l d m hs (nu.getD 0 0) = 0 then spanF b d (nu.getD 0 0) else 0), .int .i64 (if askL b l d m hs (nu.getD 0 0) = 0 then spanT b l d (nu.getD 0 0) else 0), .int .i64 (askL b l d m hs (nu.getD 0 0))]', '.cells [.int .i64 (if askL b l d m hs (nu.getD 0 0) = 0 then expF b d (nu.getD 0 0) else 0), .int .i64 (if askL b l d m hs (nu.getD 0 0) = 0 then expT b l d (nu.getD 0 0) else 0), .int .i64 (askL b l d m hs (nu.getD 0 0))]', '.row true (.int .i64) (extH b l d m hs (nu.getD 2 0))', '.cells [.int .i64 (ext0 b l d m hs (nu.getD 2 0) b), .int .i64 (ext0 b l d m hs (nu.getD 2 0) (nu.getD 2 0)), .int .i64 (ext0 b l d m hs (nu.getD 2 0) d), .int .i64 (ext0 b l d m hs (nu.getD 2 0) m), .own (.int .i64) 4]', '.cells [.int .i64 (ext0 b l d m hs (nu.getD 2 0) b), .int .i64 (ext0 b l d m hs (nu.getD 2 0) (nu.getD 2 0)), .int .i64 (ext0 b l d m hs (nu.getD 2 0) d), .int .i64 (ext0 b l d m hs (nu.getD 2 0) m), .sl (extR {b} {l} {d} {m} {hs} {x}) (.int .i64) (extH b l d m hs (nu.getD 2 0)), .int .i64 (extE b l d m hs (nu.getD 2 0))]']
      exact ⟨rfl, rfl, congrArg V.b (propext ⟨fun _ => trivial, fun _ => by first | trivial | rfl⟩), rfl⟩
end Go.Proofs.Ytgljcfnplkcfhaa.S29

namespace Go.Proofs.Ytgljcfnplkcfhaa.Cd
open Go Go.Proofs.Ytgljcfnplkcfhaa.Vc Go.Proofs Go.Proofs.Ytgljcfnplkcfhaa.S29 Go.ChangeShapes Go.WideShapes Go.ChangeAt Go.RowKit
set_option maxRecDepth 100000
set_option linter.unusedVariables false

theorem bulkAll {H : Type} : ∀ l : List (DataW H), Rows.uptoBulkAll l = (l.map Rows.uptoBulk).sum
  | [] => rfl
  | d :: l => by rw [Rows.uptoBulkAll, bulkAll l]; rfl
theorem bulk {H : Type} : Bulk (H := H) Rows.uptoBulk where
  one d := by cases d with
    | lit l => cases l <;> simp [Rows.uptoBulk]
    | _ => simp [Rows.uptoBulk]
  str b := by simp [Rows.uptoBulk]
  sl es sp := by rw [Rows.uptoBulk, bulkAll, bulkAll]; omega
  agg ps := by rw [Rows.uptoBulk, bulkAll]; omega
theorem wt_cons (t ts : Ty) (x : (Ty.cons t ts).D) : wt (.cons t ts) x = wt t x.1 + wt ts x.2 := rfl
theorem wt_int (k : IntKind) (x : Int) : wt (.int k) x = 1 := rfl
theorem wt_nil (x : Unit) : wt .nil x = 0 := rfl
theorem laidOut : laidOutB Try.prog = true := by kernel_rfl
theorem own : ownKnob Try.prog.godebug = none := by kernel_rfl

section
variable {H : Type} {enc : TypeId × Value → H} {P : Program}
theorem post_same {f : Func} {s : ChangeSpec} {apart fresh handsOn again : Bool} {W W' : World} {args : Array Value} {v : Value} {ds gs : List (DataW H)} {before pa pv : List MemPlace}
    (hW : DataW.Whole enc P f.params.toList s.vars apart W args.toList ds gs before)
    (hres : ∀ (b : Nat) (sp : Nat → Bool) (hd : Bool), DataW.TrodAll enc P W' b sp hd f.resultTypes.toList (v.resultList f.resultTypes.size) (s.fn H (ds ++ gs)).results [])
    (hargs : ∀ sp : Nat → Bool, (∀ p ∈ before, sp p.block = true) → DataW.TrodAll enc P W' 0 sp true f.params.toList args.toList (s.fn H (ds ++ gs)).args pa)
    (hvars : ∀ sp : Nat → Bool, (∀ p ∈ before, sp p.block = true) → DataW.TrodVars enc P W' sp s.vars (s.fn H (ds ++ gs)).vars pv)
    (hps : before = pa ++ pv) (hb : Below W.heap.size W W')
    (hok : ∀ (j : Nat) (t : TypeId) (r : Value), f.resultTypes[j]? = some t → (v.resultList f.resultTypes.size)[j]? = some r → Value.okWide P W' .any 0 t r) :
    s.post enc P f apart fresh handsOn again W args v W' := by
  have hlt : ∀ p ∈ before, p.block < W.heap.size := fun p hp => by simpa using hW.lt p hp
  have hold : ∀ p ∈ before, (fun b => decide (b < W.heap.size)) p.block = true := fun p hp => by simpa using hW.lt p hp
  refine ⟨ds, gs, before, [], pa, pv, hW, hres _ _ _, hargs _ hold, hvars _ hold, World.keptBut_mono (fun p hp => ⟨hp, ?_⟩) (hb.frame (· ∈ before)), fun _ => ?_⟩
  · rw [hps, List.mem_append] at hp
    exact Or.inr hp
  · obtain ⟨_, _, _, _, _, hz, hn⟩ := hW
    refine ⟨hok, _, _, ([] ++ pa) ++ pv, ⟨[] ++ pa, pv, trodAll_append (hargs _ (fun _ _ => rfl)) (hres _ _ _), hvars _ (fun _ _ => rfl), rfl, ?_, ?_⟩, ?_⟩
    · intro b off hp
      have hp' : MemPlace.cell b off ∈ before := by rw [hps]; simpa using hp
      rw [hb.frozen (hlt _ hp')]
      exact hz b off hp'
    · intro ha
      have := hn ha
      rw [hps] at this
      simpa using this
    · intro p hp _
      rw [hps]
      simpa using hp
end
end Go.Proofs.Ytgljcfnplkcfhaa.Cd

/- Texts of this claim: S27.L3, S27.Ps, S27.Pw, S27.Cd0. -/
import Derived.Test.YtmkphnlpbngenaaDoorS3
import Derived.Test.YtmkphnlpbngenaaDoorVc8
import Derived.Test.YtmkphnlpbngenaaDoorCards
import Derived.Test.YtmkphnlpbngenaaDoorTie
import Derived.WalkKit
import Derived.ProofKit
import Derived.OpenShut
import Derived.Deep.DeepHandedRow
import Derived.Lib.LaidTab
set_option linter.unusedVariables false
set_option linter.unusedSimpArgs false
namespace Go.Proofs.YtmkphnlpbngenaaDoor.S27
open Go Go.Proofs.YtmkphnlpbngenaaDoor.Vc Go.Proofs
set_option maxRecDepth 100000
set_option linter.unusedVariables false

def sSan : List V → Option (Prop × V × List Blk)
  | [] => some (True, .b True, [])
  | _ => none
set_option maxHeartbeats 8000000 in
theorem bSan   : bodyP (En CSec tys G6 QPrs [1000001, 1000002]) Tryd.f11 [.k] [] (.b True) [] := by
  refine ⟨rfl, rfl, by show 3 = 3; decide +kernel, ⟨rfl, rfl, rfl, Nat.le_of_ble_eq_true rfl⟩, .inr ?_⟩
  refine ⟨fun h0 => ?_, fun h0 => absurd (show (0 : Int) < 3 by decide +kernel) h0⟩
  refine ⟨rfl, rfl, ⟨by show (mkC 3 1 ([5, 6, 7])).length ≤ 1048576; decide +kernel, by show (∀ l ∈ (mkC 3 1 ([5, 6, 7])), l.length ≤ 1048576 ∧ ∀ x ∈ l, x.length ≤ 1048576); decide +kernel⟩, ⟨by show (0 : Int) ≤ 0; first | omega | decide +kernel, by show 0 < (([[10], [20], [30]] : List (List UInt8)).length : Int); first | omega | decide +kernel⟩, rfl, ⟨by show ([rowL (mkN 3 1 ([5, 6, 7])) (mkC 3 1 ([5, 6, 7])) 0] : List (List (List UInt8))).length ≤ 1048576; decide +kernel, by show (∀ l ∈ ([rowL (mkN 3 1 ([5, 6, 7])) (mkC 3 1 ([5, 6, 7])) 0] : List (List (List UInt8))), l.length ≤ 1048576); decide +kernel⟩, ⟨rfl, rfl, rfl, Nat.le_of_ble_eq_true rfl⟩, fun h1 => ?_, fun h1 => absurd h1 (show ¬ ((rowE (mkN 3 1 ([5, 6, 7])) (mkC 3 1 ([5, 6, 7])) 0) ≠ 0) by decide +kernel)⟩
  refine ⟨fun h2 => ?_, fun h2 => absurd h2 (show ¬ ((updE 0 (([[10], [20], [30]] : List (List UInt8)).getD 0 []) ([rowL (mkN 3 1 ([5, 6, 7])) (mkC 3 1 ([5, 6, 7])) 0] : List (List (List UInt8)))) ≠ 0) by decide +kernel)⟩
  refine ⟨fun h3 => absurd h3 (show ¬ ((updH 0 (([[10], [20], [30]] : List (List UInt8)).getD 0 []) ([rowL (mkN 3 1 ([5, 6, 7])) (mkC 3 1 ([5, 6, 7])) 0] : List (List (List UInt8)))) ≠ 0) by decide +kernel), fun h3 => ?_⟩
  refine ⟨by show ([rowL (mkN 3 1 ([5, 6, 7])) (mkC 3 1 ([5, 6, 7])) 0] : List (List (List UInt8))).length ≤ 1000000000; first | omega | decide +kernel, rfl, by show ([(updH 0 (([[10], [20], [30]] : List (List UInt8)).getD 0 []) ([rowL (mkN 3 1 ([5, 6, 7])) (mkC 3 1 ([5, 6, 7])) 0] : List (List (List UInt8))), updS 0 (([[10], [20], [30]] : List (List UInt8)).getD 0 []) ([rowL (mkN 3 1 ([5, 6, 7])) (mkC 3 1 ([5, 6, 7])) 0] : List (List (List UInt8))), ())] : List (Int × (List UInt8 × Unit))).length ≤ 1000000000; first | omega | decide +kernel, ⟨by show (-9223372036854775808 : Int) ≤ 1; first | omega | decide +kernel, by show 1 ≤ (9223372036854775807 : Int); first | omega | decide +kernel⟩, fun h4 => ?_, fun h4 => absurd (show (1 : Int) < 3 by decide +kernel) h4⟩
  refine ⟨rfl, rfl, ⟨by show (mkC 3 1 ([5, 6, 7])).length ≤ 1048576; decide +kernel, by show (∀ l ∈ (mkC 3 1 ([5, 6, 7])), l.length ≤ 1048576 ∧ ∀ x ∈ l, x.length ≤ 1048576); decide +kernel⟩, ⟨by show (0 : Int) ≤ 1; first | omega | decide +kernel, by show 1 < (([[10], [20], [30]] : List (List UInt8)).length : Int); first | omega | decide +kernel⟩, rfl, ⟨by show ([rowL (mkN 3 1 ([5, 6, 7])) (mkC 3 1 ([5, 6, 7])) 1] : List (List (List UInt8))).length ≤ 1048576; decide +kernel, by show (∀ l ∈ ([rowL (mkN 3 1 ([5, 6, 7])) (mkC 3 1 ([5, 6, 7])) 1] : List (List (List UInt8))), l.length ≤ 1048576); decide +kernel⟩, ⟨rfl, rfl, rfl, Nat.le_of_ble_eq_true rfl⟩, fun h5 => ?_, fun h5 => absurd h5 (show ¬ ((rowE (mkN 3 1 ([5, 6, 7])) (mkC 3 1 ([5, 6, 7])) 1) ≠ 0) by decide +kernel)⟩
  refine ⟨fun h6 => ?_, fun h6 => absurd h6 (show ¬ ((updE 1 (([[10], [20], [30]] : List (List UInt8)).getD 1 []) ([rowL (mkN 3 1 ([5, 6, 7])) (mkC 3 1 ([5, 6, 7])) 1] : List (List (List UInt8)))) ≠ 0) by decide +kernel)⟩
  refine ⟨fun h7 => absurd h7 (show ¬ ((updH 1 (([[10], [20], [30]] : List (List UInt8)).getD 1 []) ([rowL (mkN 3 1 ([5, 6, 7])) (mkC 3 1 ([5, 6, 7])) 1] : List (List (List UInt8)))) ≠ 1) by decide +kernel), fun h7 => ?_⟩
  refine ⟨⟨rfl, rfl⟩, by show ([rowL (mkN 3 1 ([5, 6, 7])) (mkC 3 1 ([5, 6, 7])) 0] : List (List (List UInt8))).length + ([rowL (mkN 3 1 ([5, 6, 7])) (mkC 3 1 ([5, 6, 7])) 1] : List (List (List UInt8))).length ≤ 1000000000; simp only [List.length_cons, List.length_nil]; first | omega | decide +kernel, rfl, ⟨rfl, rfl⟩, by show ([(updH 0 (([[10], [20], [30]] : List (List UInt8)).getD 0 []) ([rowL (mkN 3 1 ([5, 6, 7])) (mkC 3 1 ([5, 6, 7])) 0] : List (List (List UInt8))), updS 0 (([[10], [20], [30]] : List (List UInt8)).getD 0 []) ([rowL (mkN 3 1 ([5, 6, 7])) (mkC 3 1 ([5, 6, 7])) 0] : List (List (List UInt8))), ())] : List (Int × (List UInt8 × Unit))).length + ([(updH 1 (([[10], [20], [30]] : List (List UInt8)).getD 1 []) ([rowL (mkN 3 1 ([5, 6, 7])) (mkC 3 1 ([5, 6, 7])) 1] : List (List (List UInt8))), updS 1 (([[10], [20], [30]] : List (List UInt8)).getD 1 []) ([rowL (mkN 3 1 ([5, 6, 7])) (mkC 3 1 ([5, 6, 7])) 1] : List (List (List UInt8))), ())] : List (Int × (List UInt8 × Unit))).length ≤ 1000000000; simp only [List.length_cons, List.length_nil]; first | omega | decide +kernel, ⟨by show (-9223372036854775808 : Int) ≤ 2; first | omega | decide +kernel, by show 2 ≤ (9223372036854775807 : Int); first | omega | decide +kernel⟩, fun h8 => ?_, fun h8 => absurd (show (2 : Int) < 3 by decide +kernel) h8⟩
  refine ⟨rfl, rfl, ⟨by show (mkC 3 1 ([5, 6, 7])).length ≤ 1048576; decide +kernel, by show (∀ l ∈ (mkC 3 1 ([5, 6, 7])), l.length ≤ 1048576 ∧ ∀ x ∈ l, x.length ≤ 1048576); decide +kernel⟩, ⟨by show (0 : Int) ≤ 2; first | omega | decide +kernel, by show 2 < (([[10], [20], [30]] : List (List UInt8)).length : Int); first | omega | decide +kernel⟩, rfl, ⟨by show ([rowL (mkN 3 1 ([5, 6, 7])) (mkC 3 1 ([5, 6, 7])) 2] : List (List (List UInt8))).length ≤ 1048576; decide +kernel, by show (∀ l ∈ ([rowL (mkN 3 1 ([5, 6, 7])) (mkC 3 1 ([5, 6, 7])) 2] : List (List (List UInt8))), l.length ≤ 1048576); decide +kernel⟩, ⟨rfl, rfl, rfl, Nat.le_of_ble_eq_true rfl⟩, fun h9 => ?_, fun h9 => absurd h9 (show ¬ ((rowE (mkN 3 1 ([5, 6, 7])) (mkC 3 1 ([5, 6, 7])) 2) ≠ 0) by decide +kernel)⟩
  refine ⟨fun h10 => ?_, fun h10 => absurd h10 (show ¬ ((updE 2 (([[10], [20], [30]] : List (List UInt8)).getD 2 []) ([rowL (mkN 3 1 ([5, 6, 7])) (mkC 3 1 ([5, 6, 7])) 2] : List (List (List UInt8)))) ≠ 0) by decide +kernel)⟩
  refine ⟨fun h11 => absurd h11 (show ¬ ((updH 2 (([[10], [20], [30]] : List (List UInt8)).getD 2 []) ([rowL (mkN 3 1 ([5, 6, 7])) (mkC 3 1 ([5, 6, 7])) 2] : List (List (List UInt8)))) ≠ 2) by decide +kernel), fun h11 => ?_⟩
  refine ⟨⟨rfl, rfl⟩, by show (([rowL (mkN 3 1 ([5, 6, 7])) (mkC 3 1 ([5, 6, 7])) 0] : List (List (List UInt8))) ++ ([rowL (mkN 3 1 ([5, 6, 7])) (mkC 3 1 ([5, 6, 7])) 1] : List (List (List UInt8)))).length + ([rowL (mkN 3 1 ([5, 6, 7])) (mkC 3 1 ([5, 6, 7])) 2] : List (List (List UInt8))).length ≤ 1000000000; simp only [List.length_cons, List.length_nil]; first | omega | decide +kernel, rfl, ⟨rfl, rfl⟩, by show (([(updH 0 (([[10], [20], [30]] : List (List UInt8)).getD 0 []) ([rowL (mkN 3 1 ([5, 6, 7])) (mkC 3 1 ([5, 6, 7])) 0] : List (List (List UInt8))), updS 0 (([[10], [20], [30]] : List (List UInt8)).getD 0 []) ([rowL (mkN 3 1 ([5, 6, 7])) (mkC 3 1 ([5, 6, 7])) 0] : List (List (List UInt8))), ())] : List (Int × (List UInt8 × Unit))) ++ ([(updH 1 (([[10], [20], [30]] : List (List UInt8)).getD 1 []) ([rowL (mkN 3 1 ([5, 6, 7])) (mkC 3 1 ([5, 6, 7])) 1] : List (List (List UInt8))), updS 1 (([[10], [20], [30]] : List (List UInt8)).getD 1 []) ([rowL (mkN 3 1 ([5, 6, 7])) (mkC 3 1 ([5, 6, 7])) 1] : List (List (List UInt8))), ())] : List (Int × (List UInt8 × Unit)))).length + ([(updH 2 (([[10], [20], [30]] : List (List UInt8)).getD 2 []) ([rowL (mkN 3 1 ([5, 6, 7])) (mkC 3 1 ([5, 6, 7])) 2] : List (List (List UInt8))), updS 2 (([[10], [20], [30]] : List (List UInt8)).getD 2 []) ([rowL (mkN 3 1 ([5, 6, 7])) (mkC 3 1 ([5, 6, 7])) 2] : List (List (List UInt8))), ())] : List (Int × (List UInt8 × Unit))).length ≤ 1000000000; simp only [List.length_cons, List.length_nil]; first | omega | decide +kernel, ⟨by show (-9223372036854775808 : Int) ≤ 3; first | omega | decide +kernel, by show 3 ≤ (9223372036854775807 : Int); first | omega | decide +kernel⟩, fun h12 => absurd h12 (show ¬ ((3 : Int) < 3) by decide +kernel), fun h12 => ?_⟩
  refine ⟨fun h13 => ?_, fun h13 => absurd h13 (show ¬ ((mkE 3 1 ([5, 6, 7])) ≠ 0) by decide +kernel)⟩
  refine ⟨⟨by show (0 : Int) ≤ 0; first | omega | decide +kernel, by show 0 < (((([rowL (mkN 3 1 ([5, 6, 7])) (mkC 3 1 ([5, 6, 7])) 0] : List (List (List UInt8))) ++ ([rowL (mkN 3 1 ([5, 6, 7])) (mkC 3 1 ([5, 6, 7])) 1] : List (List (List UInt8)))) ++ ([rowL (mkN 3 1 ([5, 6, 7])) (mkC 3 1 ([5, 6, 7])) 2] : List (List (List UInt8)))).length : Int); first | omega | decide +kernel⟩, ⟨by show (((([rowL (mkN 3 1 ([5, 6, 7])) (mkC 3 1 ([5, 6, 7])) 0] : List (List (List UInt8))) ++ ([rowL (mkN 3 1 ([5, 6, 7])) (mkC 3 1 ([5, 6, 7])) 1] : List (List (List UInt8)))) ++ ([rowL (mkN 3 1 ([5, 6, 7])) (mkC 3 1 ([5, 6, 7])) 2] : List (List (List UInt8)))).getD 0 []).length ≤ 1048576; decide +kernel, by show ([[3], [1]] : List (List UInt8)).length ≤ 1048576; decide +kernel⟩, fun h14 => ?_, fun h14 => absurd h14 (show ¬ (¬ ((((([rowL (mkN 3 1 ([5, 6, 7])) (mkC 3 1 ([5, 6, 7])) 0] : List (List (List UInt8))) ++ ([rowL (mkN 3 1 ([5, 6, 7])) (mkC 3 1 ([5, 6, 7])) 1] : List (List (List UInt8)))) ++ ([rowL (mkN 3 1 ([5, 6, 7])) (mkC 3 1 ([5, 6, 7])) 2] : List (List (List UInt8)))).getD 0 []) = ([[3], [1]] : List (List UInt8)))) by decide +kernel)⟩
  refine ⟨⟨by show (0 : Int) ≤ 1; first | omega | decide +kernel, by show 1 < (((([rowL (mkN 3 1 ([5, 6, 7])) (mkC 3 1 ([5, 6, 7])) 0] : List (List (List UInt8))) ++ ([rowL (mkN 3 1 ([5, 6, 7])) (mkC 3 1 ([5, 6, 7])) 1] : List (List (List UInt8)))) ++ ([rowL (mkN 3 1 ([5, 6, 7])) (mkC 3 1 ([5, 6, 7])) 2] : List (List (List UInt8)))).length : Int); first | omega | decide +kernel⟩, ⟨by show (((([rowL (mkN 3 1 ([5, 6, 7])) (mkC 3 1 ([5, 6, 7])) 0] : List (List (List UInt8))) ++ ([rowL (mkN 3 1 ([5, 6, 7])) (mkC 3 1 ([5, 6, 7])) 1] : List (List (List UInt8)))) ++ ([rowL (mkN 3 1 ([5, 6, 7])) (mkC 3 1 ([5, 6, 7])) 2] : List (List (List UInt8)))).getD 1 []).length ≤ 1048576; decide +kernel, by show ([[9], [8]] : List (List UInt8)).length ≤ 1048576; decide +kernel⟩, fun h15 => ?_, fun h15 => absurd h15 (show ¬ (¬ ((((([rowL (mkN 3 1 ([5, 6, 7])) (mkC 3 1 ([5, 6, 7])) 0] : List (List (List UInt8))) ++ ([rowL (mkN 3 1 ([5, 6, 7])) (mkC 3 1 ([5, 6, 7])) 1] : List (List (List UInt8)))) ++ ([rowL (mkN 3 1 ([5, 6, 7])) (mkC 3 1 ([5, 6, 7])) 2] : List (List (List UInt8)))).getD 1 []) = ([[9], [8]] : List (List UInt8)))) by decide +kernel)⟩
  refine ⟨⟨by show (0 : Int) ≤ 2; first | omega | decide +kernel, by show 2 < (((([rowL (mkN 3 1 ([5, 6, 7])) (mkC 3 1 ([5, 6, 7])) 0] : List (List (List UInt8))) ++ ([rowL (mkN 3 1 ([5, 6, 7])) (mkC 3 1 ([5, 6, 7])) 1] : List (List (List UInt8)))) ++ ([rowL (mkN 3 1 ([5, 6, 7])) (mkC 3 1 ([5, 6, 7])) 2] : List (List (List UInt8)))).length : Int); first | omega | decide +kernel⟩, ⟨by show (((([rowL (mkN 3 1 ([5, 6, 7])) (mkC 3 1 ([5, 6, 7])) 0] : List (List (List UInt8))) ++ ([rowL (mkN 3 1 ([5, 6, 7])) (mkC 3 1 ([5, 6, 7])) 1] : List (List (List UInt8)))) ++ ([rowL (mkN 3 1 ([5, 6, 7])) (mkC 3 1 ([5, 6, 7])) 2] : List (List (List UInt8)))).getD 2 []).length ≤ 1048576; decide +kernel, by show ([[15], [15]] : List (List UInt8)).length ≤ 1048576; decide +kernel⟩, fun h16 => absurd h16 (show ¬ (¬ ((((([rowL (mkN 3 1 ([5, 6, 7])) (mkC 3 1 ([5, 6, 7])) 0] : List (List (List UInt8))) ++ ([rowL (mkN 3 1 ([5, 6, 7])) (mkC 3 1 ([5, 6, 7])) 1] : List (List (List UInt8)))) ++ ([rowL (mkN 3 1 ([5, 6, 7])) (mkC 3 1 ([5, 6, 7])) 2] : List (List (List UInt8)))).getD 2 []) = ([[15], [15]] : List (List UInt8)))) by decide +kernel), fun h16 => ?_⟩
  refine ⟨⟨by show (0 : Int) ≤ 0; first | omega | decide +kernel, by show 0 < (((([rowL (mkN 3 1 ([5, 6, 7])) (mkC 3 1 ([5, 6, 7])) 0] : List (List (List UInt8))) ++ ([rowL (mkN 3 1 ([5, 6, 7])) (mkC 3 1 ([5, 6, 7])) 1] : List (List (List UInt8)))) ++ ([rowL (mkN 3 1 ([5, 6, 7])) (mkC 3 1 ([5, 6, 7])) 2] : List (List (List UInt8)))).length : Int); first | omega | decide +kernel⟩, rfl, by show (((([rowL (mkN 3 1 ([5, 6, 7])) (mkC 3 1 ([5, 6, 7])) 0] : List (List (List UInt8))) ++ ([rowL (mkN 3 1 ([5, 6, 7])) (mkC 3 1 ([5, 6, 7])) 1] : List (List (List UInt8)))) ++ ([rowL (mkN 3 1 ([5, 6, 7])) (mkC 3 1 ([5, 6, 7])) 2] : List (List (List UInt8)))).getD 0 []).length ≤ 1048576; decide +kernel, ⟨by show (0 : Int) ≤ 1; first | omega | decide +kernel, by show 1 < (((([rowL (mkN 3 1 ([5, 6, 7])) (mkC 3 1 ([5, 6, 7])) 0] : List (List (List UInt8))) ++ ([rowL (mkN 3 1 ([5, 6, 7])) (mkC 3 1 ([5, 6, 7])) 1] : List (List (List UInt8)))) ++ ([rowL (mkN 3 1 ([5, 6, 7])) (mkC 3 1 ([5, 6, 7])) 2] : List (List (List UInt8)))).length : Int); first | omega | decide +kernel⟩, rfl, by show (((([rowL (mkN 3 1 ([5, 6, 7])) (mkC 3 1 ([5, 6, 7])) 0] : List (List (List UInt8))) ++ ([rowL (mkN 3 1 ([5, 6, 7])) (mkC 3 1 ([5, 6, 7])) 1] : List (List (List UInt8)))) ++ ([rowL (mkN 3 1 ([5, 6, 7])) (mkC 3 1 ([5, 6, 7])) 2] : List (List (List UInt8)))).getD 1 []).length ≤ 1048576; decide +kernel, by kernel_rfl, ⟨by show (0 : Int) ≤ 1; first | omega | decide +kernel, by show 1 < (((([rowL (mkN 3 1 ([5, 6, 7])) (mkC 3 1 ([5, 6, 7])) 0] : List (List (List UInt8))) ++ ([rowL (mkN 3 1 ([5, 6, 7])) (mkC 3 1 ([5, 6, 7])) 1] : List (List (List UInt8)))) ++ ([rowL (mkN 3 1 ([5, 6, 7])) (mkC 3 1 ([5, 6, 7])) 2] : List (List (List UInt8)))).length : Int); first | omega | decide +kernel⟩, ⟨by show (0 : Int) ≤ 2; first | omega | decide +kernel, by show 2 < (((([rowL (mkN 3 1 ([5, 6, 7])) (mkC 3 1 ([5, 6, 7])) 0] : List (List (List UInt8))) ++ ([rowL (mkN 3 1 ([5, 6, 7])) (mkC 3 1 ([5, 6, 7])) 1] : List (List (List UInt8)))) ++ ([rowL (mkN 3 1 ([5, 6, 7])) (mkC 3 1 ([5, 6, 7])) 2] : List (List (List UInt8)))).length : Int); first | omega | decide +kernel⟩, rfl, rfl, ⟨by show (((([rowL (mkN 3 1 ([5, 6, 7])) (mkC 3 1 ([5, 6, 7])) 0] : List (List (List UInt8))) ++ ([rowL (mkN 3 1 ([5, 6, 7])) (mkC 3 1 ([5, 6, 7])) 1] : List (List (List UInt8)))) ++ ([rowL (mkN 3 1 ([5, 6, 7])) (mkC 3 1 ([5, 6, 7])) 2] : List (List (List UInt8)))).getD 1 []).length ≤ 1048576; decide +kernel, by show (((([rowL (mkN 3 1 ([5, 6, 7])) (mkC 3 1 ([5, 6, 7])) 0] : List (List (List UInt8))) ++ ([rowL (mkN 3 1 ([5, 6, 7])) (mkC 3 1 ([5, 6, 7])) 1] : List (List (List UInt8)))) ++ ([rowL (mkN 3 1 ([5, 6, 7])) (mkC 3 1 ([5, 6, 7])) 2] : List (List (List UInt8)))).getD 2 []).length ≤ 1048576; decide +kernel⟩, ⟨by show ((([rowL (mkN 3 1 ([5, 6, 7])) (mkC 3 1 ([5, 6, 7])) 0] : List (List (List UInt8))) ++ ([rowL (mkN 3 1 ([5, 6, 7])) (mkC 3 1 ([5, 6, 7])) 1] : List (List (List UInt8)))) ++ ([rowL (mkN 3 1 ([5, 6, 7])) (mkC 3 1 ([5, 6, 7])) 2] : List (List (List UInt8)))).length ≤ 1048576; decide +kernel, by show (∀ l ∈ ((([rowL (mkN 3 1 ([5, 6, 7])) (mkC 3 1 ([5, 6, 7])) 0] : List (List (List UInt8))) ++ ([rowL (mkN 3 1 ([5, 6, 7])) (mkC 3 1 ([5, 6, 7])) 1] : List (List (List UInt8)))) ++ ([rowL (mkN 3 1 ([5, 6, 7])) (mkC 3 1 ([5, 6, 7])) 2] : List (List (List UInt8)))), l.length ≤ 1048576 ∧ ∀ x ∈ l, x.length ≤ 1048576); decide +kernel⟩, by kernel_rfl, ⟨by show (0 : Int) ≤ 0; first | omega | decide +kernel, by show 0 < (((([rowL (mkN 3 1 ([5, 6, 7])) (mkC 3 1 ([5, 6, 7])) 0] : List (List (List UInt8))) ++ ([rowL (mkN 3 1 ([5, 6, 7])) (mkC 3 1 ([5, 6, 7])) 1] : List (List (List UInt8)))) ++ ([rowL (mkN 3 1 ([5, 6, 7])) (mkC 3 1 ([5, 6, 7])) 2] : List (List (List UInt8)))).length : Int); first | omega | decide +kernel⟩, ⟨by show (0 : Int) ≤ 2; first | omega | decide +kernel, by show 2 < (((([rowL (mkN 3 1 ([5, 6, 7])) (mkC 3 1 ([5, 6, 7])) 0] : List (List (List UInt8))) ++ ([rowL (mkN 3 1 ([5, 6, 7])) (mkC 3 1 ([5, 6, 7])) 1] : List (List (List UInt8)))) ++ ([rowL (mkN 3 1 ([5, 6, 7])) (mkC 3 1 ([5, 6, 7])) 2] : List (List (List UInt8)))).length : Int); first | omega | decide +kernel⟩, ⟨by show ([(((([rowL (mkN 3 1 ([5, 6, 7])) (mkC 3 1 ([5, 6, 7])) 0] : List (List (List UInt8))) ++ ([rowL (mkN 3 1 ([5, 6, 7])) (mkC 3 1 ([5, 6, 7])) 1] : List (List (List UInt8)))) ++ ([rowL (mkN 3 1 ([5, 6, 7])) (mkC 3 1 ([5, 6, 7])) 2] : List (List (List UInt8)))).getD 0 []), ([[9], [9]] : List (List UInt8)), (((([rowL (mkN 3 1 ([5, 6, 7])) (mkC 3 1 ([5, 6, 7])) 0] : List (List (List UInt8))) ++ ([rowL (mkN 3 1 ([5, 6, 7])) (mkC 3 1 ([5, 6, 7])) 1] : List (List (List UInt8)))) ++ ([rowL (mkN 3 1 ([5, 6, 7])) (mkC 3 1 ([5, 6, 7])) 2] : List (List (List UInt8)))).getD 2 [])]).length ≤ 1048576; decide +kernel, by show (∀ l ∈ ([(((([rowL (mkN 3 1 ([5, 6, 7])) (mkC 3 1 ([5, 6, 7])) 0] : List (List (List UInt8))) ++ ([rowL (mkN 3 1 ([5, 6, 7])) (mkC 3 1 ([5, 6, 7])) 1] : List (List (List UInt8)))) ++ ([rowL (mkN 3 1 ([5, 6, 7])) (mkC 3 1 ([5, 6, 7])) 2] : List (List (List UInt8)))).getD 0 []), ([[9], [9]] : List (List UInt8)), (((([rowL (mkN 3 1 ([5, 6, 7])) (mkC 3 1 ([5, 6, 7])) 0] : List (List (List UInt8))) ++ ([rowL (mkN 3 1 ([5, 6, 7])) (mkC 3 1 ([5, 6, 7])) 1] : List (List (List UInt8)))) ++ ([rowL (mkN 3 1 ([5, 6, 7])) (mkC 3 1 ([5, 6, 7])) 2] : List (List (List UInt8)))).getD 2 [])]), l.length ≤ 1048576 ∧ ∀ x ∈ l, x.length ≤ 1048576); decide +kernel⟩, ⟨by first | omega | decide +kernel, by first | omega | decide +kernel⟩, rfl, ⟨by show ((((([rowL (mkN 3 1 ([5, 6, 7])) (mkC 3 1 ([5, 6, 7])) 0] : List (List (List UInt8))) ++ ([rowL (mkN 3 1 ([5, 6, 7])) (mkC 3 1 ([5, 6, 7])) 1] : List (List (List UInt8)))) ++ ([rowL (mkN 3 1 ([5, 6, 7])) (mkC 3 1 ([5, 6, 7])) 2] : List (List (List UInt8)))).drop 0).take (2 - 0)).length ≤ 1048576; decide +kernel, by show (∀ l ∈ ((((([rowL (mkN 3 1 ([5, 6, 7])) (mkC 3 1 ([5, 6, 7])) 0] : List (List (List UInt8))) ++ ([rowL (mkN 3 1 ([5, 6, 7])) (mkC 3 1 ([5, 6, 7])) 1] : List (List (List UInt8)))) ++ ([rowL (mkN 3 1 ([5, 6, 7])) (mkC 3 1 ([5, 6, 7])) 2] : List (List (List UInt8)))).drop 0).take (2 - 0)), l.length ≤ 1048576 ∧ ∀ x ∈ l, x.length ≤ 1048576); decide +kernel⟩, rfl, ⟨by show ([(((([rowL (mkN 3 1 ([5, 6, 7])) (mkC 3 1 ([5, 6, 7])) 0] : List (List (List UInt8))) ++ ([rowL (mkN 3 1 ([5, 6, 7])) (mkC 3 1 ([5, 6, 7])) 1] : List (List (List UInt8)))) ++ ([rowL (mkN 3 1 ([5, 6, 7])) (mkC 3 1 ([5, 6, 7])) 2] : List (List (List UInt8)))).getD 0 []), ([[9], [9]] : List (List UInt8)), (((([rowL (mkN 3 1 ([5, 6, 7])) (mkC 3 1 ([5, 6, 7])) 0] : List (List (List UInt8))) ++ ([rowL (mkN 3 1 ([5, 6, 7])) (mkC 3 1 ([5, 6, 7])) 1] : List (List (List UInt8)))) ++ ([rowL (mkN 3 1 ([5, 6, 7])) (mkC 3 1 ([5, 6, 7])) 2] : List (List (List UInt8)))).getD 2 [])]).length ≤ 1048576; decide +kernel, by show (∀ l ∈ ([(((([rowL (mkN 3 1 ([5, 6, 7])) (mkC 3 1 ([5, 6, 7])) 0] : List (List (List UInt8))) ++ ([rowL (mkN 3 1 ([5, 6, 7])) (mkC 3 1 ([5, 6, 7])) 1] : List (List (List UInt8)))) ++ ([rowL (mkN 3 1 ([5, 6, 7])) (mkC 3 1 ([5, 6, 7])) 2] : List (List (List UInt8)))).getD 0 []), ([[9], [9]] : List (List UInt8)), (((([rowL (mkN 3 1 ([5, 6, 7])) (mkC 3 1 ([5, 6, 7])) 0] : List (List (List UInt8))) ++ ([rowL (mkN 3 1 ([5, 6, 7])) (mkC 3 1 ([5, 6, 7])) 1] : List (List (List UInt8)))) ++ ([rowL (mkN 3 1 ([5, 6, 7])) (mkC 3 1 ([5, 6, 7])) 2] : List (List (List UInt8)))).getD 2 [])]), l.length ≤ 1048576 ∧ ∀ x ∈ l, x.length ≤ 1048576); decide +kernel⟩, ⟨by first | omega | decide +kernel, by first | omega | decide +kernel⟩, rfl, ⟨by show ((((([rowL (mkN 3 1 ([5, 6, 7])) (mkC 3 1 ([5, 6, 7])) 0] : List (List (List UInt8))) ++ ([rowL (mkN 3 1 ([5, 6, 7])) (mkC 3 1 ([5, 6, 7])) 1] : List (List (List UInt8)))) ++ ([rowL (mkN 3 1 ([5, 6, 7])) (mkC 3 1 ([5, 6, 7])) 2] : List (List (List UInt8)))).drop 0).take (1 - 0)).length ≤ 1048576; decide +kernel, by show (∀ l ∈ ((((([rowL (mkN 3 1 ([5, 6, 7])) (mkC 3 1 ([5, 6, 7])) 0] : List (List (List UInt8))) ++ ([rowL (mkN 3 1 ([5, 6, 7])) (mkC 3 1 ([5, 6, 7])) 1] : List (List (List UInt8)))) ++ ([rowL (mkN 3 1 ([5, 6, 7])) (mkC 3 1 ([5, 6, 7])) 2] : List (List (List UInt8)))).drop 0).take (1 - 0)), l.length ≤ 1048576 ∧ ∀ x ∈ l, x.length ≤ 1048576); decide +kernel⟩, fun h17 => ?_, fun h17 => absurd h17 (show ¬ ((valE (((([rowL (mkN 3 1 ([5, 6, 7])) (mkC 3 1 ([5, 6, 7])) 0] : List (List (List UInt8))) ++ ([rowL (mkN 3 1 ([5, 6, 7])) (mkC 3 1 ([5, 6, 7])) 1] : List (List (List UInt8)))) ++ ([rowL (mkN 3 1 ([5, 6, 7])) (mkC 3 1 ([5, 6, 7])) 2] : List (List (List UInt8)))).getD 0 []) 1) ≠ 0) by decide +kernel)⟩
  refine ⟨fun h18 => ?_, fun h18 => absurd h18 (show ¬ ((valE (((([rowL (mkN 3 1 ([5, 6, 7])) (mkC 3 1 ([5, 6, 7])) 0] : List (List (List UInt8))) ++ ([rowL (mkN 3 1 ([5, 6, 7])) (mkC 3 1 ([5, 6, 7])) 1] : List (List (List UInt8)))) ++ ([rowL (mkN 3 1 ([5, 6, 7])) (mkC 3 1 ([5, 6, 7])) 2] : List (List (List UInt8)))).getD 1 []) 0) ≠ 0) by decide +kernel)⟩
  refine ⟨fun h19 => ?_, fun h19 => absurd h19 (show ¬ ((agE (((([rowL (mkN 3 1 ([5, 6, 7])) (mkC 3 1 ([5, 6, 7])) 0] : List (List (List UInt8))) ++ ([rowL (mkN 3 1 ([5, 6, 7])) (mkC 3 1 ([5, 6, 7])) 1] : List (List (List UInt8)))) ++ ([rowL (mkN 3 1 ([5, 6, 7])) (mkC 3 1 ([5, 6, 7])) 2] : List (List (List UInt8)))).getD 1 []) 1 (((([rowL (mkN 3 1 ([5, 6, 7])) (mkC 3 1 ([5, 6, 7])) 0] : List (List (List UInt8))) ++ ([rowL (mkN 3 1 ([5, 6, 7])) (mkC 3 1 ([5, 6, 7])) 1] : List (List (List UInt8)))) ++ ([rowL (mkN 3 1 ([5, 6, 7])) (mkC 3 1 ([5, 6, 7])) 2] : List (List (List UInt8)))).getD 2 []) 2) ≠ 0) by decide +kernel)⟩
  refine ⟨fun h20 => ?_, fun h20 => absurd h20 (show ¬ ((cmpE ((([rowL (mkN 3 1 ([5, 6, 7])) (mkC 3 1 ([5, 6, 7])) 0] : List (List (List UInt8))) ++ ([rowL (mkN 3 1 ([5, 6, 7])) (mkC 3 1 ([5, 6, 7])) 1] : List (List (List UInt8)))) ++ ([rowL (mkN 3 1 ([5, 6, 7])) (mkC 3 1 ([5, 6, 7])) 2] : List (List (List UInt8))))) ≠ 0) by decide +kernel)⟩
  refine ⟨fun h21 => ?_, fun h21 => absurd h21 (show ¬ ((cmpE ([(((([rowL (mkN 3 1 ([5, 6, 7])) (mkC 3 1 ([5, 6, 7])) 0] : List (List (List UInt8))) ++ ([rowL (mkN 3 1 ([5, 6, 7])) (mkC 3 1 ([5, 6, 7])) 1] : List (List (List UInt8)))) ++ ([rowL (mkN 3 1 ([5, 6, 7])) (mkC 3 1 ([5, 6, 7])) 2] : List (List (List UInt8)))).getD 0 []), ([[9], [9]] : List (List UInt8)), (((([rowL (mkN 3 1 ([5, 6, 7])) (mkC 3 1 ([5, 6, 7])) 0] : List (List (List UInt8))) ++ ([rowL (mkN 3 1 ([5, 6, 7])) (mkC 3 1 ([5, 6, 7])) 1] : List (List (List UInt8)))) ++ ([rowL (mkN 3 1 ([5, 6, 7])) (mkC 3 1 ([5, 6, 7])) 2] : List (List (List UInt8)))).getD 2 [])])) ≠ 0) by decide +kernel)⟩
  refine ⟨fun h22 => ?_, fun h22 => absurd h22 (show ¬ ((rflE ((((([rowL (mkN 3 1 ([5, 6, 7])) (mkC 3 1 ([5, 6, 7])) 0] : List (List (List UInt8))) ++ ([rowL (mkN 3 1 ([5, 6, 7])) (mkC 3 1 ([5, 6, 7])) 1] : List (List (List UInt8)))) ++ ([rowL (mkN 3 1 ([5, 6, 7])) (mkC 3 1 ([5, 6, 7])) 2] : List (List (List UInt8)))).drop 0).take (2 - 0)) 2) ≠ 0) by decide +kernel)⟩
  refine ⟨fun h23 => ?_, fun h23 => absurd h23 (show ¬ ((rflE ([(((([rowL (mkN 3 1 ([5, 6, 7])) (mkC 3 1 ([5, 6, 7])) 0] : List (List (List UInt8))) ++ ([rowL (mkN 3 1 ([5, 6, 7])) (mkC 3 1 ([5, 6, 7])) 1] : List (List (List UInt8)))) ++ ([rowL (mkN 3 1 ([5, 6, 7])) (mkC 3 1 ([5, 6, 7])) 2] : List (List (List UInt8)))).getD 0 []), ([[9], [9]] : List (List UInt8)), (((([rowL (mkN 3 1 ([5, 6, 7])) (mkC 3 1 ([5, 6, 7])) 0] : List (List (List UInt8))) ++ ([rowL (mkN 3 1 ([5, 6, 7])) (mkC 3 1 ([5, 6, 7])) 1] : List (List (List UInt8)))) ++ ([rowL (mkN 3 1 ([5, 6, 7])) (mkC 3 1 ([5, 6, 7])) 2] : List (List (List UInt8)))).getD 2 [])]) 2) ≠ 4) by decide +kernel)⟩
  refine ⟨fun h24 => absurd h24 (show ¬ ((rflE ((((([rowL (mkN 3 1 ([5, 6, 7])) (mkC 3 1 ([5, 6, 7])) 0] : List (List (List UInt8))) ++ ([rowL (mkN 3 1 ([5, 6, 7])) (mkC 3 1 ([5, 6, 7])) 1] : List (List (List UInt8)))) ++ ([rowL (mkN 3 1 ([5, 6, 7])) (mkC 3 1 ([5, 6, 7])) 2] : List (List (List UInt8)))).drop 0).take (1 - 0)) 2) ≠ 17) by decide +kernel), fun h24 => ?_⟩
  refine ⟨fun h25 => ?_, fun h25 => absurd (show (valS (((([rowL (mkN 3 1 ([5, 6, 7])) (mkC 3 1 ([5, 6, 7])) 0] : List (List (List UInt8))) ++ ([rowL (mkN 3 1 ([5, 6, 7])) (mkC 3 1 ([5, 6, 7])) 1] : List (List (List UInt8)))) ++ ([rowL (mkN 3 1 ([5, 6, 7])) (mkC 3 1 ([5, 6, 7])) 2] : List (List (List UInt8)))).getD 0 []) 1) = ([1]) by decide +kernel) h25⟩
  refine ⟨fun h26 => ?_, fun h26 => absurd (show (valS (((([rowL (mkN 3 1 ([5, 6, 7])) (mkC 3 1 ([5, 6, 7])) 0] : List (List (List UInt8))) ++ ([rowL (mkN 3 1 ([5, 6, 7])) (mkC 3 1 ([5, 6, 7])) 1] : List (List (List UInt8)))) ++ ([rowL (mkN 3 1 ([5, 6, 7])) (mkC 3 1 ([5, 6, 7])) 2] : List (List (List UInt8)))).getD 1 []) 0) = ([1]) by decide +kernel) h26⟩
  refine ⟨fun h27 => ?_, fun h27 => absurd (show agQ (((([rowL (mkN 3 1 ([5, 6, 7])) (mkC 3 1 ([5, 6, 7])) 0] : List (List (List UInt8))) ++ ([rowL (mkN 3 1 ([5, 6, 7])) (mkC 3 1 ([5, 6, 7])) 1] : List (List (List UInt8)))) ++ ([rowL (mkN 3 1 ([5, 6, 7])) (mkC 3 1 ([5, 6, 7])) 2] : List (List (List UInt8)))).getD 1 []) 1 (((([rowL (mkN 3 1 ([5, 6, 7])) (mkC 3 1 ([5, 6, 7])) 0] : List (List (List UInt8))) ++ ([rowL (mkN 3 1 ([5, 6, 7])) (mkC 3 1 ([5, 6, 7])) 1] : List (List (List UInt8)))) ++ ([rowL (mkN 3 1 ([5, 6, 7])) (mkC 3 1 ([5, 6, 7])) 2] : List (List (List UInt8)))).getD 2 []) 2 by decide +kernel) h27⟩
  refine ⟨fun h28 => ?_, fun h28 => absurd (show (((cmpL ((([rowL (mkN 3 1 ([5, 6, 7])) (mkC 3 1 ([5, 6, 7])) 0] : List (List (List UInt8))) ++ ([rowL (mkN 3 1 ([5, 6, 7])) (mkC 3 1 ([5, 6, 7])) 1] : List (List (List UInt8)))) ++ ([rowL (mkN 3 1 ([5, 6, 7])) (mkC 3 1 ([5, 6, 7])) 2] : List (List (List UInt8))))).length : Nat) : Int) = 0 by decide +kernel) h28⟩
  refine ⟨rfl, rfl, rfl, rfl, ⟨by show (cmpL ([(((([rowL (mkN 3 1 ([5, 6, 7])) (mkC 3 1 ([5, 6, 7])) 0] : List (List (List UInt8))) ++ ([rowL (mkN 3 1 ([5, 6, 7])) (mkC 3 1 ([5, 6, 7])) 1] : List (List (List UInt8)))) ++ ([rowL (mkN 3 1 ([5, 6, 7])) (mkC 3 1 ([5, 6, 7])) 2] : List (List (List UInt8)))).getD 0 []), ([[9], [9]] : List (List UInt8)), (((([rowL (mkN 3 1 ([5, 6, 7])) (mkC 3 1 ([5, 6, 7])) 0] : List (List (List UInt8))) ++ ([rowL (mkN 3 1 ([5, 6, 7])) (mkC 3 1 ([5, 6, 7])) 1] : List (List (List UInt8)))) ++ ([rowL (mkN 3 1 ([5, 6, 7])) (mkC 3 1 ([5, 6, 7])) 2] : List (List (List UInt8)))).getD 2 [])])).length ≤ 1048576; decide +kernel, by show ([([0, 1] : List Int), ([1, 2] : List Int)] : List (List Int)).length ≤ 1048576; decide +kernel⟩, fun h29 => ?_, fun h29 => absurd (show (cmpL ([(((([rowL (mkN 3 1 ([5, 6, 7])) (mkC 3 1 ([5, 6, 7])) 0] : List (List (List UInt8))) ++ ([rowL (mkN 3 1 ([5, 6, 7])) (mkC 3 1 ([5, 6, 7])) 1] : List (List (List UInt8)))) ++ ([rowL (mkN 3 1 ([5, 6, 7])) (mkC 3 1 ([5, 6, 7])) 2] : List (List (List UInt8)))).getD 0 []), ([[9], [9]] : List (List UInt8)), (((([rowL (mkN 3 1 ([5, 6, 7])) (mkC 3 1 ([5, 6, 7])) 0] : List (List (List UInt8))) ++ ([rowL (mkN 3 1 ([5, 6, 7])) (mkC 3 1 ([5, 6, 7])) 1] : List (List (List UInt8)))) ++ ([rowL (mkN 3 1 ([5, 6, 7])) (mkC 3 1 ([5, 6, 7])) 2] : List (List (List UInt8)))).getD 2 [])])) = ([([0, 1] : List Int), ([1, 2] : List Int)] : List (List Int)) by decide +kernel) h29⟩
  refine ⟨⟨by show (0 : Int) ≤ 2; first | omega | decide +kernel, by show 2 < (((([rowL (mkN 3 1 ([5, 6, 7])) (mkC 3 1 ([5, 6, 7])) 0] : List (List (List UInt8))) ++ ([rowL (mkN 3 1 ([5, 6, 7])) (mkC 3 1 ([5, 6, 7])) 1] : List (List (List UInt8)))) ++ ([rowL (mkN 3 1 ([5, 6, 7])) (mkC 3 1 ([5, 6, 7])) 2] : List (List (List UInt8)))).length : Int); first | omega | decide +kernel⟩, ⟨by show (rflL ((((([rowL (mkN 3 1 ([5, 6, 7])) (mkC 3 1 ([5, 6, 7])) 0] : List (List (List UInt8))) ++ ([rowL (mkN 3 1 ([5, 6, 7])) (mkC 3 1 ([5, 6, 7])) 1] : List (List (List UInt8)))) ++ ([rowL (mkN 3 1 ([5, 6, 7])) (mkC 3 1 ([5, 6, 7])) 2] : List (List (List UInt8)))).drop 0).take (2 - 0)) 2).length ≤ 1048576; decide +kernel, by show (((([rowL (mkN 3 1 ([5, 6, 7])) (mkC 3 1 ([5, 6, 7])) 0] : List (List (List UInt8))) ++ ([rowL (mkN 3 1 ([5, 6, 7])) (mkC 3 1 ([5, 6, 7])) 1] : List (List (List UInt8)))) ++ ([rowL (mkN 3 1 ([5, 6, 7])) (mkC 3 1 ([5, 6, 7])) 2] : List (List (List UInt8)))).getD 2 []).length ≤ 1048576; decide +kernel⟩, fun h30 => ?_, fun h30 => absurd (show (rflL ((((([rowL (mkN 3 1 ([5, 6, 7])) (mkC 3 1 ([5, 6, 7])) 0] : List (List (List UInt8))) ++ ([rowL (mkN 3 1 ([5, 6, 7])) (mkC 3 1 ([5, 6, 7])) 1] : List (List (List UInt8)))) ++ ([rowL (mkN 3 1 ([5, 6, 7])) (mkC 3 1 ([5, 6, 7])) 2] : List (List (List UInt8)))).drop 0).take (2 - 0)) 2) = (((([rowL (mkN 3 1 ([5, 6, 7])) (mkC 3 1 ([5, 6, 7])) 0] : List (List (List UInt8))) ++ ([rowL (mkN 3 1 ([5, 6, 7])) (mkC 3 1 ([5, 6, 7])) 1] : List (List (List UInt8)))) ++ ([rowL (mkN 3 1 ([5, 6, 7])) (mkC 3 1 ([5, 6, 7])) 2] : List (List (List UInt8)))).getD 2 []) by decide +kernel) h30⟩
  refine ⟨⟨by show (0 : Int) ≤ 0; first | omega | decide +kernel, by show 0 < (((([(updH 0 (([[10], [20], [30]] : List (List UInt8)).getD 0 []) ([rowL (mkN 3 1 ([5, 6, 7])) (mkC 3 1 ([5, 6, 7])) 0] : List (List (List UInt8))), updS 0 (([[10], [20], [30]] : List (List UInt8)).getD 0 []) ([rowL (mkN 3 1 ([5, 6, 7])) (mkC 3 1 ([5, 6, 7])) 0] : List (List (List UInt8))), ())] : List (Int × (List UInt8 × Unit))) ++ ([(updH 1 (([[10], [20], [30]] : List (List UInt8)).getD 1 []) ([rowL (mkN 3 1 ([5, 6, 7])) (mkC 3 1 ([5, 6, 7])) 1] : List (List (List UInt8))), updS 1 (([[10], [20], [30]] : List (List UInt8)).getD 1 []) ([rowL (mkN 3 1 ([5, 6, 7])) (mkC 3 1 ([5, 6, 7])) 1] : List (List (List UInt8))), ())] : List (Int × (List UInt8 × Unit)))) ++ ([(updH 2 (([[10], [20], [30]] : List (List UInt8)).getD 2 []) ([rowL (mkN 3 1 ([5, 6, 7])) (mkC 3 1 ([5, 6, 7])) 2] : List (List (List UInt8))), updS 2 (([[10], [20], [30]] : List (List UInt8)).getD 2 []) ([rowL (mkN 3 1 ([5, 6, 7])) (mkC 3 1 ([5, 6, 7])) 2] : List (List (List UInt8))), ())] : List (Int × (List UInt8 × Unit)))).length : Int); first | omega | decide +kernel⟩, fun h31 => ?_, fun h31 => absurd (show (((((([(updH 0 (([[10], [20], [30]] : List (List UInt8)).getD 0 []) ([rowL (mkN 3 1 ([5, 6, 7])) (mkC 3 1 ([5, 6, 7])) 0] : List (List (List UInt8))), updS 0 (([[10], [20], [30]] : List (List UInt8)).getD 0 []) ([rowL (mkN 3 1 ([5, 6, 7])) (mkC 3 1 ([5, 6, 7])) 0] : List (List (List UInt8))), ())] : List (Int × (List UInt8 × Unit))) ++ ([(updH 1 (([[10], [20], [30]] : List (List UInt8)).getD 1 []) ([rowL (mkN 3 1 ([5, 6, 7])) (mkC 3 1 ([5, 6, 7])) 1] : List (List (List UInt8))), updS 1 (([[10], [20], [30]] : List (List UInt8)).getD 1 []) ([rowL (mkN 3 1 ([5, 6, 7])) (mkC 3 1 ([5, 6, 7])) 1] : List (List (List UInt8))), ())] : List (Int × (List UInt8 × Unit)))) ++ ([(updH 2 (([[10], [20], [30]] : List (List UInt8)).getD 2 []) ([rowL (mkN 3 1 ([5, 6, 7])) (mkC 3 1 ([5, 6, 7])) 2] : List (List (List UInt8))), updS 2 (([[10], [20], [30]] : List (List UInt8)).getD 2 []) ([rowL (mkN 3 1 ([5, 6, 7])) (mkC 3 1 ([5, 6, 7])) 2] : List (List (List UInt8))), ())] : List (Int × (List UInt8 × Unit)))).getD 0 (0, ([], ()))).2).1) = ([9]) by decide +kernel) h31⟩
  refine ⟨⟨by show (0 : Int) ≤ 1; first | omega | decide +kernel, by show 1 < (((([(updH 0 (([[10], [20], [30]] : List (List UInt8)).getD 0 []) ([rowL (mkN 3 1 ([5, 6, 7])) (mkC 3 1 ([5, 6, 7])) 0] : List (List (List UInt8))), updS 0 (([[10], [20], [30]] : List (List UInt8)).getD 0 []) ([rowL (mkN 3 1 ([5, 6, 7])) (mkC 3 1 ([5, 6, 7])) 0] : List (List (List UInt8))), ())] : List (Int × (List UInt8 × Unit))) ++ ([(updH 1 (([[10], [20], [30]] : List (List UInt8)).getD 1 []) ([rowL (mkN 3 1 ([5, 6, 7])) (mkC 3 1 ([5, 6, 7])) 1] : List (List (List UInt8))), updS 1 (([[10], [20], [30]] : List (List UInt8)).getD 1 []) ([rowL (mkN 3 1 ([5, 6, 7])) (mkC 3 1 ([5, 6, 7])) 1] : List (List (List UInt8))), ())] : List (Int × (List UInt8 × Unit)))) ++ ([(updH 2 (([[10], [20], [30]] : List (List UInt8)).getD 2 []) ([rowL (mkN 3 1 ([5, 6, 7])) (mkC 3 1 ([5, 6, 7])) 2] : List (List (List UInt8))), updS 2 (([[10], [20], [30]] : List (List UInt8)).getD 2 []) ([rowL (mkN 3 1 ([5, 6, 7])) (mkC 3 1 ([5, 6, 7])) 2] : List (List (List UInt8))), ())] : List (Int × (List UInt8 × Unit)))).length : Int); first | omega | decide +kernel⟩, fun h32 => ?_, fun h32 => absurd (show (((((([(updH 0 (([[10], [20], [30]] : List (List UInt8)).getD 0 []) ([rowL (mkN 3 1 ([5, 6, 7])) (mkC 3 1 ([5, 6, 7])) 0] : List (List (List UInt8))), updS 0 (([[10], [20], [30]] : List (List UInt8)).getD 0 []) ([rowL (mkN 3 1 ([5, 6, 7])) (mkC 3 1 ([5, 6, 7])) 0] : List (List (List UInt8))), ())] : List (Int × (List UInt8 × Unit))) ++ ([(updH 1 (([[10], [20], [30]] : List (List UInt8)).getD 1 []) ([rowL (mkN 3 1 ([5, 6, 7])) (mkC 3 1 ([5, 6, 7])) 1] : List (List (List UInt8))), updS 1 (([[10], [20], [30]] : List (List UInt8)).getD 1 []) ([rowL (mkN 3 1 ([5, 6, 7])) (mkC 3 1 ([5, 6, 7])) 1] : List (List (List UInt8))), ())] : List (Int × (List UInt8 × Unit)))) ++ ([(updH 2 (([[10], [20], [30]] : List (List UInt8)).getD 2 []) ([rowL (mkN 3 1 ([5, 6, 7])) (mkC 3 1 ([5, 6, 7])) 2] : List (List (List UInt8))), updS 2 (([[10], [20], [30]] : List (List UInt8)).getD 2 []) ([rowL (mkN 3 1 ([5, 6, 7])) (mkC 3 1 ([5, 6, 7])) 2] : List (List (List UInt8))), ())] : List (Int × (List UInt8 × Unit)))).getD 1 (0, ([], ()))).2).1) = ([6]) by decide +kernel) h32⟩
  refine ⟨⟨by show (0 : Int) ≤ 2; first | omega | decide +kernel, by show 2 < (((([(updH 0 (([[10], [20], [30]] : List (List UInt8)).getD 0 []) ([rowL (mkN 3 1 ([5, 6, 7])) (mkC 3 1 ([5, 6, 7])) 0] : List (List (List UInt8))), updS 0 (([[10], [20], [30]] : List (List UInt8)).getD 0 []) ([rowL (mkN 3 1 ([5, 6, 7])) (mkC 3 1 ([5, 6, 7])) 0] : List (List (List UInt8))), ())] : List (Int × (List UInt8 × Unit))) ++ ([(updH 1 (([[10], [20], [30]] : List (List UInt8)).getD 1 []) ([rowL (mkN 3 1 ([5, 6, 7])) (mkC 3 1 ([5, 6, 7])) 1] : List (List (List UInt8))), updS 1 (([[10], [20], [30]] : List (List UInt8)).getD 1 []) ([rowL (mkN 3 1 ([5, 6, 7])) (mkC 3 1 ([5, 6, 7])) 1] : List (List (List UInt8))), ())] : List (Int × (List UInt8 × Unit)))) ++ ([(updH 2 (([[10], [20], [30]] : List (List UInt8)).getD 2 []) ([rowL (mkN 3 1 ([5, 6, 7])) (mkC 3 1 ([5, 6, 7])) 2] : List (List (List UInt8))), updS 2 (([[10], [20], [30]] : List (List UInt8)).getD 2 []) ([rowL (mkN 3 1 ([5, 6, 7])) (mkC 3 1 ([5, 6, 7])) 2] : List (List (List UInt8))), ())] : List (Int × (List UInt8 × Unit)))).length : Int); first | omega | decide +kernel⟩, ?_⟩
  exact ⟨rfl, rfl, congrArg V.b (propext ⟨fun _ => trivial, fun _ => by show (((((([(updH 0 (([[10], [20], [30]] : List (List UInt8)).getD 0 []) ([rowL (mkN 3 1 ([5, 6, 7])) (mkC 3 1 ([5, 6, 7])) 0] : List (List (List UInt8))), updS 0 (([[10], [20], [30]] : List (List UInt8)).getD 0 []) ([rowL (mkN 3 1 ([5, 6, 7])) (mkC 3 1 ([5, 6, 7])) 0] : List (List (List UInt8))), ())] : List (Int × (List UInt8 × Unit))) ++ ([(updH 1 (([[10], [20], [30]] : List (List UInt8)).getD 1 []) ([rowL (mkN 3 1 ([5, 6, 7])) (mkC 3 1 ([5, 6, 7])) 1] : List (List (List UInt8))), updS 1 (([[10], [20], [30]] : List (List UInt8)).getD 1 []) ([rowL (mkN 3 1 ([5, 6, 7])) (mkC 3 1 ([5, 6, 7])) 1] : List (List (List UInt8))), ())] : List (Int × (List UInt8 × Unit)))) ++ ([(updH 2 (([[10], [20], [30]] : List (List UInt8)).getD 2 []) ([rowL (mkN 3 1 ([5, 6, 7])) (mkC 3 1 ([5, 6, 7])) 2] : List (List (List UInt8))), updS 2 (([[10], [20], [30]] : List (List UInt8)).getD 2 []) ([rowL (mkN 3 1 ([5, 6, 7])) (mkC 3 1 ([5, 6, 7])) 2] : List (List (List UInt8))), ())] : List (Int × (List UInt8 × Unit)))).getD 2 (0, ([], ()))).2).1) = ([15]); decide +kernel⟩), rfl⟩
def CSan : List (Nat × Con) := (11, pureC [] sSan) :: CSec
theorem kSan : Known Tryd.prog (En CSan tys G6 QPrs) := Known.frz0 <| (kSec.frz [1000001, 1000002]).add Tryd.func11 Tryd.call11 [.k] fun ds p v bs h hp => by
  unfold sSan at h
  split at h <;> simp only [Option.some.injEq, Prod.mk.injEq, reduceCtorEq] at h
  obtain ⟨rfl, rfl, rfl⟩ := h
  exact bSan 
end Go.Proofs.YtmkphnlpbngenaaDoor.S27

namespace Go.Proofs.YtmkphnlpbngenaaDoor.S27
open Go

/-! ### bounds -/
theorem dlt_mx {nd : Int} {cf : List Rw} {s : Int} (h : Deal nd cf) : ∀ l ∈ dltK cf s 12, l.length ≤ 1048576 ∧ ∀ x ∈ l, x.length ≤ 1048576 := fun l hl => by
  obtain ⟨k, hk, rfl⟩ := getD_mem' (d := []) hl
  have h3 := h.len
  have h4 := h.n12
  have h5 := h.max
  rw [dlt_get]
  split
  · rw [rowD_len]
    exact ⟨by omega, fun x hx => by rw [row_len h _ x hx]; omega⟩
  · exact ⟨by simp, fun x hx => by simp at hx⟩
theorem rflL_len (rows : List Rw) (h : Int) : (rflL rows h).length ≤ 11 := by
  unfold rflL
  split
  · rename_i e
    have hc : cmpE rows = 0 := by
      unfold rflE at e
      split at e
      · assumption
      · rename_i g; exact absurd e g
    rw [rflO, outS_len]
    exact last_11 (cmp0 hc).2.1 _
  · simp
theorem rflL_le (rows : List Rw) (h : Int) : ∀ s ∈ rflL rows h, s.length ≤ 1048576 := fun s hs => by
  unfold rflL at hs
  split at hs
  · rename_i e
    have hc : cmpE rows = 0 := by
      unfold rflE at e
      split at e
      · assumption
      · rename_i g; exact absurd e g
    have := outS_le (ps := (ptsK rows rows.length).take (lastK rows rows.length)) (vs := vlsK rows h rows.length) (m := lastK rows rows.length) (N := 4096) (vls_le (cmp0 hc).2.1 (Nat.le_refl _)) _ s hs
    omega
  · simp at hs
theorem allR_mx (rows : List Rw) (k : Nat) : ∀ l ∈ allR rows k, l.length ≤ 1048576 ∧ ∀ x ∈ l, x.length ≤ 1048576 := fun l hl => by
  obtain ⟨h, _, rfl⟩ := List.mem_map.1 hl
  split
  · exact ⟨Nat.le_trans (rflL_len _ _) (by omega), rflL_le _ _⟩
  · exact ⟨by simp, fun x hx => by simp at hx⟩
theorem rfl0_cases {rows : List Rw} (h0 : cmpE rows = 0) (hl : cmpL rows = []) : rflE rows 0 = 0 ∨ rflE rows 0 = 17 := by
  rw [rflE_cases h0 hl ⟨by omega, by omega⟩]
  split
  · exact .inr rfl
  · exact .inl rfl
end Go.Proofs.YtmkphnlpbngenaaDoor.S27

namespace Go.Proofs.YtmkphnlpbngenaaDoor.S27
open Go Go.Proofs.YtmkphnlpbngenaaDoor.Vc

/-! ### how large the parts of a datum are -/
theorem wt_mem {t : Ty} {xs : List t.D} {x : t.D} (h : x ∈ xs) : wt t x + 1 ≤ wt (.sl t) xs := by
  have e : wt (.sl t) xs = (xs.map (wt t)).sum + 1 := rfl
  rw [e]
  clear e
  induction xs with
  | nil => cases h
  | cons y ys ih =>
    rw [List.map_cons, List.sum_cons]
    rcases List.mem_cons.1 h with rfl | h
    · omega
    · have := ih h; omega
theorem wt_len {t : Ty} (h1 : ∀ x, 1 ≤ wt t x) (xs : List t.D) : xs.length + 1 ≤ wt (.sl t) xs := by
  have e : wt (.sl t) xs = (xs.map (wt t)).sum + 1 := rfl
  rw [e]
  clear e
  induction xs with
  | nil => simp
  | cons x xs ih => have := h1 x; rw [List.map_cons, List.sum_cons, List.length_cons]; omega
theorem wt_s (s : List UInt8) : wt .str s = s.length + 1 := rfl
theorem wt_sl1 {t : Ty} (xs : List t.D) : 1 ≤ wt (.sl t) xs := by
  have e : wt (.sl t) xs = (xs.map (wt t)).sum + 1 := rfl
  omega
theorem mx1 (r : Rw) : r.length ≤ wt (.sl .str) r ∧ ∀ x ∈ r, x.length ≤ wt (.sl .str) r := by
  refine ⟨?_, fun x hx => ?_⟩
  · have := wt_len (t := .str) (fun x => by rw [wt_s]; omega) r; omega
  · have := wt_mem (t := .str) hx; rw [wt_s] at this; omega
theorem mx2 (cf : List Rw) : cf.length ≤ wt (.sl (.sl .str)) cf ∧ ∀ l ∈ cf, l.length ≤ wt (.sl (.sl .str)) cf ∧ ∀ x ∈ l, x.length ≤ wt (.sl (.sl .str)) cf := by
  refine ⟨?_, fun l hl => ?_⟩
  · have := wt_len (t := .sl .str) (fun x => wt_sl1 x) cf; omega
  · have h := wt_mem (t := .sl .str) hl
    obtain ⟨h1, h2⟩ := mx1 l
    exact ⟨by omega, fun x hx => by have := h2 x hx; omega⟩
theorem mxP (l : List (List UInt8)) : l.length ≤ wt (.sl (.sl .u8)) l ∧ ∀ x ∈ l, x.length ≤ wt (.sl (.sl .u8)) l := by
  refine ⟨?_, fun x hx => ?_⟩
  · have := wt_len (t := .sl .u8) (fun x => wt_sl1 x) l; omega
  · have := wt_mem (t := .sl .u8) hx; rw [wt_bytes] at this; omega
abbrev dealT : Ty := .cons (.int .i64) (.cons (.sl (.sl .str)) .nil)
theorem wt_deal (d : Dl) : wt dealT d = 1 + (wt (.sl (.sl .str)) d.2.1 + 0) := rfl
theorem mx3 (ds : List Dl) : ds.length ≤ wt (.sl dealT) ds ∧ ∀ d ∈ ds, d.2.1.length ≤ wt (.sl dealT) ds ∧ ∀ l ∈ d.2.1, l.length ≤ wt (.sl dealT) ds ∧ ∀ x ∈ l, x.length ≤ wt (.sl dealT) ds := by
  refine ⟨?_, fun d hd => ?_⟩
  · have := wt_len (t := dealT) (fun x => by rw [wt_deal]; omega) ds; omega
  · have h := wt_mem (t := dealT) hd
    rw [wt_deal] at h
    obtain ⟨h1, h2⟩ := mx2 d.2.1
    exact ⟨by omega, fun l hl => by obtain ⟨a, b⟩ := h2 l hl; exact ⟨by omega, fun x hx => by have := b x hx; omega⟩⟩
section
variable {N : Nat}
theorem mx2' {cf : List Rw} (h : wt (.sl (.sl .str)) cf ≤ N) : cf.length ≤ N ∧ ∀ l ∈ cf, l.length ≤ N ∧ ∀ x ∈ l, x.length ≤ N := by
  obtain ⟨a, b⟩ := mx2 cf
  exact ⟨by omega, fun l hl => ⟨by have := (b l hl).1; omega, fun x hx => by have := (b l hl).2 x hx; omega⟩⟩
theorem mxP' {l : List (List UInt8)} (h : wt (.sl (.sl .u8)) l ≤ N) : l.length ≤ N ∧ ∀ x ∈ l, x.length ≤ N := by
  obtain ⟨a, b⟩ := mxP l
  exact ⟨by omega, fun x hx => by have := b x hx; omega⟩
theorem mx3' {ds : List Dl} (h : wt (.sl dealT) ds ≤ N) : ds.length ≤ N ∧ ∀ d ∈ ds, d.2.1.length ≤ N ∧ ∀ l ∈ d.2.1, l.length ≤ N ∧ ∀ x ∈ l, x.length ≤ N := by
  obtain ⟨a, b⟩ := mx3 ds
  exact ⟨by omega, fun d hd => ⟨by have := (b d hd).1; omega, fun l hl => ⟨by have := ((b d hd).2 l hl).1; omega, fun x hx => by have := ((b d hd).2 l hl).2 x hx; omega⟩⟩⟩
end
end Go.Proofs.YtmkphnlpbngenaaDoor.S27

namespace Go.Proofs.YtmkphnlpbngenaaDoor.Cd
open Go Go.Proofs.YtmkphnlpbngenaaDoor.Vc Go.Proofs Go.Proofs.YtmkphnlpbngenaaDoor.S27 Go.ChangeShapes Go.WideShapes Go.ChangeAt Go.RowKit
set_option maxRecDepth 100000
set_option linter.unusedVariables false

theorem bulkAll {H : Type} : ∀ l : List (DataW H), Rows.uptoBulkAll l = (l.map Rows.uptoBulk).sum
  | [] => rfl
  | d :: l => by rw [Rows.uptoBulkAll, bulkAll l]; rfl
theorem bulk {H : Type} : Bulk (H := H) Rows.uptoBulk where
  one d := by cases d with
    | lit l => cases l <;> simp [Rows.uptoBulk]
    | _ => simp [Rows.uptoBulk]
  str b := by simp [Rows.uptoBulk]
  sl es sp := by rw [Rows.uptoBulk, bulkAll, bulkAll]; omega
  agg ps := by rw [Rows.uptoBulk, bulkAll]; omega
theorem wt_cons (t ts : Ty) (x : (Ty.cons t ts).D) : wt (.cons t ts) x = wt t x.1 + wt ts x.2 := rfl
theorem wt_int (k : IntKind) (x : Int) : wt (.int k) x = 1 := rfl
theorem wt_nil (x : Unit) : wt .nil x = 0 := rfl
theorem laidOut : laidOutB Tryd.prog = true := by kernel_rfl
theorem own : ownKnob Tryd.prog.godebug = none := by kernel_rfl

section
variable {H : Type} {enc : TypeId × Value → H} {P : Program}
theorem post_same {f : Func} {s : ChangeSpec} {apart fresh handsOn again : Bool} {W W' : World} {args : Array Value} {v : Value} {ds gs : List (DataW H)} {before pa pv : List MemPlace}
    (hW : DataW.Whole enc P f.params.toList s.vars apart W args.toList ds gs before)
    (hres : ∀ (b : Nat) (sp : Nat → Bool) (hd : Bool), DataW.TrodAll enc P W' b sp hd f.resultTypes.toList (v.resultList f.resultTypes.size) (s.fn H (ds ++ gs)).results [])
    (hargs : ∀ sp : Nat → Bool, (∀ p ∈ before, sp p.block = true) → DataW.TrodAll enc P W' 0 sp true f.params.toList args.toList (s.fn H (ds ++ gs)).args pa)
    (hvars : ∀ sp : Nat → Bool, (∀ p ∈ before, sp p.block = true) → DataW.TrodVars enc P W' sp s.vars (s.fn H (ds ++ gs)).vars pv)
    (hps : before = pa ++ pv) (hb : Below W.heap.size W W')
    (hok : ∀ (j : Nat) (t : TypeId) (r : Value), f.resultTypes[j]? = some t → (v.resultList f.resultTypes.size)[j]? = some r → Value.okWide P W' .any 0 t r) :
    s.post enc P f apart fresh handsOn again W args v W' := by
  have hlt : ∀ p ∈ before, p.block < W.heap.size := fun p hp => by simpa using hW.lt p hp
  have hold : ∀ p ∈ before, (fun b => decide (b < W.heap.size)) p.block = true := fun p hp => by simpa using hW.lt p hp
  refine ⟨ds, gs, before, [], pa, pv, hW, hres _ _ _, hargs _ hold, hvars _ hold, World.keptBut_mono (fun p hp => ⟨hp, ?_⟩) (hb.frame (· ∈ before)), fun _ => ?_⟩
  · rw [hps, List.mem_append] at hp
    exact Or.inr hp
  · obtain ⟨_, _, _, _, _, hz, hn⟩ := hW
    refine ⟨hok, _, _, ([] ++ pa) ++ pv, ⟨[] ++ pa, pv, trodAll_append (hargs _ (fun _ _ => rfl)) (hres _ _ _), hvars _ (fun _ _ => rfl), rfl, ?_, ?_⟩, ?_⟩
    · intro b off hp
      have hp' : MemPlace.cell b off ∈ before := by rw [hps]; simpa using hp
      rw [hb.frozen (hlt _ hp')]
      exact hz b off hp'
    · intro ha
      have := hn ha
      rw [hps] at this
      simpa using this
    · intro p hp _
      rw [hps]
      simpa using hp
end
end Go.Proofs.YtmkphnlpbngenaaDoor.Cd

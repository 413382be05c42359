/- Texts of this claim: S27.L3, S27.Ps, S27.Pt, S27.L4, S27.PolyL, S27.RefA, S27.RefB, S27.Pu. -/
import Derived.Test.YtmkphnlpbngenaaDoorS3
import Derived.Test.YtmkphnlpbngenaaDoorS0
set_option linter.unusedVariables false
set_option linter.unusedSimpArgs false
namespace Go.Proofs.YtmkphnlpbngenaaDoor.S27
open Go Go.Proofs.YtmkphnlpbngenaaDoor.Vc Go.Proofs
set_option maxRecDepth 100000
set_option linter.unusedVariables false

def sSan : List V → Option (Prop × V × List Blk)
  | [] => some (True, .b True, [])
  | _ => none
set_option maxHeartbeats 8000000 in
theorem bSan   : bodyP (En CSec tys G6 QPrs [1000001, 1000002]) Tryd.f11 [.k] [] (.b True) [] := by
  refine ⟨rfl, rfl, by show 3 = 3; decide +kernel, ⟨rfl, rfl, rfl, Nat.le_of_ble_eq_true rfl⟩, .inr ?_⟩
  refine ⟨fun h0 => ?_, fun h0 => absurd (show (0 : Int) < 3 by decide +kernel) h0⟩
  refine ⟨rfl, rfl, ⟨by show (mkC 3 1 ([5, 6, 7])).length ≤ 1048576; decide +kernel, by show (∀ l ∈ (mkC 3 1 ([5, 6, 7])), l.length ≤ 1048576 ∧ ∀ x ∈ l, x.length ≤ 1048576); decide +kernel⟩, ⟨by show (0 : Int) ≤ 0; first | omega | decide +kernel, by show 0 < (([[10], [20], [30]] : List (List UInt8)).length : Int); first | omega | decide +kernel⟩, rfl, ⟨by show ([rowL (mkN 3 1 ([5, 6, 7])) (mkC 3 1 ([5, 6, 7])) 0] : List (List (List UInt8))).length ≤ 1048576; decide +kernel, by show (∀ l ∈ ([rowL (mkN 3 1 ([5, 6, 7])) (mkC 3 1 ([5, 6, 7])) 0] : List (List (List UInt8))), l.length ≤ 1048576); decide +kernel⟩, ⟨rfl, rfl, rfl, Nat.le_of_ble_eq_true rfl⟩, fun h1 => ?_, fun h1 => absurd h1 (show ¬ ((rowE (mkN 3 1 ([5, 6, 7])) (mkC 3 1 ([5, 6, 7])) 0) ≠ 0) by decide +kernel)⟩
  refine ⟨fun h2 => ?_, fun h2 => absurd h2 (show ¬ ((updE 0 (([[10], [20], [30]] : List (List UInt8)).getD 0 []) ([rowL (mkN 3 1 ([5, 6, 7])) (mkC 3 1 ([5, 6, 7])) 0] : List (List (List UInt8)))) ≠ 0) by decide +kernel)⟩
  refine ⟨fun h3 => absurd h3 (show ¬ ((updH 0 (([[10], [20], [30]] : List (List UInt8)).getD 0 []) ([rowL (mkN 3 1 ([5, 6, 7])) (mkC 3 1 ([5, 6, 7])) 0] : List (List (List UInt8)))) ≠ 0) by decide +kernel), fun h3 => ?_⟩
  refine ⟨by show ([rowL (mkN 3 1 ([5, 6, 7])) (mkC 3 1 ([5, 6, 7])) 0] : List (List (List UInt8))).length ≤ 1000000000; first | omega | decide +kernel, rfl, by show ([(updH 0 (([[10], [20], [30]] : List (List UInt8)).getD 0 []) ([rowL (mkN 3 1 ([5, 6, 7])) (mkC 3 1 ([5, 6, 7])) 0] : List (List (List UInt8))), updS 0 (([[10], [20], [30]] : List (List UInt8)).getD 0 []) ([rowL (mkN 3 1 ([5, 6, 7])) (mkC 3 1 ([5, 6, 7])) 0] : List (List (List UInt8))), ())] : List (Int × (List UInt8 × Unit))).length ≤ 1000000000; first | omega | decide +kernel, ⟨by show (-9223372036854775808 : Int) ≤ 1; first | omega | decide +kernel, by show 1 ≤ (9223372036854775807 : Int); first | omega | decide +kernel⟩, fun h4 => ?_, fun h4 => absurd (show (1 : Int) < 3 by decide +kernel) h4⟩
  refine ⟨rfl, rfl, ⟨by show (mkC 3 1 ([5, 6, 7])).length ≤ 1048576; decide +kernel, by show (∀ l ∈ (mkC 3 1 ([5, 6, 7])), l.length ≤ 1048576 ∧ ∀ x ∈ l, x.length ≤ 1048576); decide +kernel⟩, ⟨by show (0 : Int) ≤ 1; first | omega | decide +kernel, by show 1 < (([[10], [20], [30]] : List (List UInt8)).length : Int); first | omega | decide +kernel⟩, rfl, ⟨by show ([rowL (mkN 3 1 ([5, 6, 7])) (mkC 3 1 ([5, 6, 7])) 1] : List (List (List UInt8))).length ≤ 1048576; decide +kernel, by show (∀ l ∈ ([rowL (mkN 3 1 ([5, 6, 7])) (mkC 3 1 ([5, 6, 7])) 1] : List (List (List UInt8))), l.length ≤ 1048576); decide +kernel⟩, ⟨rfl, rfl, rfl, Nat.le_of_ble_eq_true rfl⟩, fun h5 => ?_, fun h5 => absurd h5 (show ¬ ((rowE (mkN 3 1 ([5, 6, 7])) (mkC 3 1 ([5, 6, 7])) 1) ≠ 0) by decide +kernel)⟩
  refine ⟨fun h6 => ?_, fun h6 => absurd h6 (show ¬ ((updE 1 (([[10], [20], [30]] : List (List UInt8)).getD 1 []) ([rowL (mkN 3 1 ([5, 6, 7])) (mkC 3 1 ([5, 6, 7])) 1] : List (List (List UInt8)))) ≠ 0) by decide +kernel)⟩
  refine ⟨fun h7 => absurd h7 (show ¬ ((updH 1 (([[10], [20], [30]] : List (List UInt8)).getD 1 []) ([rowL (mkN 3 1 ([5, 6, 7])) (mkC 3 1 ([5, 6, 7])) 1] : List (List (List UInt8)))) ≠ 1) by decide +kernel), fun h7 => ?_⟩
  refine ⟨⟨rfl, rfl⟩, by show ([rowL (mkN 3 1 ([5, 6, 7])) (mkC 3 1 ([5, 6, 7])) 0] : List (List (List UInt8))).length + ([rowL (mkN 3 1 ([5, 6, 7])) (mkC 3 1 ([5, 6, 7])) 1] : List (List (List UInt8))).length ≤ 1000000000; simp only [List.length_cons, List.length_nil]; first | omega | decide +kernel, rfl, ⟨rfl, rfl⟩, by show ([(updH 0 (([[10], [20], [30]] : List (List UInt8)).getD 0 []) ([rowL (mkN 3 1 ([5, 6, 7])) (mkC 3 1 ([5, 6, 7])) 0] : List (List (List UInt8))), updS 0 (([[10], [20], [30]] : List (List UInt8)).getD 0 []) ([rowL (mkN 3 1 ([5, 6, 7])) (mkC 3 1 ([5, 6, 7])) 0] : List (List (List UInt8))), ())] : List (Int × (List UInt8 × Unit))).length + ([(updH 1 (([[10], [20], [30]] : List (List UInt8)).getD 1 []) ([rowL (mkN 3 1 ([5, 6, 7])) (mkC 3 1 ([5, 6, 7])) 1] : List (List (List UInt8))), updS 1 (([[10], [20], [30]] : List (List UInt8)).getD 1 []) ([rowL (mkN 3 1 ([5, 6, 7])) (mkC 3 1 ([5, 6, 7])) 1] : List (List (List UInt8))), ())] : List (Int × (List UInt8 × Unit))).length ≤ 1000000000; simp only [List.length_cons, List.length_nil]; first | omega | decide +kernel, ⟨by show (-9223372036854775808 : Int) ≤ 2; first | omega | decide +kernel, by show 2 ≤ (9223372036854775807 : Int); first | omega | decide +kernel⟩, fun h8 => ?_, fun h8 => absurd (show (2 : Int) < 3 by decide +kernel) h8⟩
  refine ⟨rfl, rfl, ⟨by show (mkC 3 1 ([5, 6, 7])).length ≤ 1048576; decide +kernel, by show (∀ l ∈ (mkC 3 1 ([5, 6, 7])), l.length ≤ 1048576 ∧ ∀ x ∈ l, x.length ≤ 1048576); decide +kernel⟩, ⟨by show (0 : Int) ≤ 2; first | omega | decide +kernel, by show 2 < (([[10], [20], [30]] : List (List UInt8)).length : Int); first | omega | decide +kernel⟩, rfl, ⟨by show ([rowL (mkN 3 1 ([5, 6, 7])) (mkC 3 1 ([5, 6, 7])) 2] : List (List (List UInt8))).length ≤ 1048576; decide +kernel, by show (∀ l ∈ ([rowL (mkN 3 1 ([5, 6, 7])) (mkC 3 1 ([5, 6, 7])) 2] : List (List (List UInt8))), l.length ≤ 1048576); decide +kernel⟩, ⟨rfl, rfl, rfl, Nat.le_of_ble_eq_true rfl⟩, fun h9 => ?_, fun h9 => absurd h9 (show ¬ ((rowE (mkN 3 1 ([5, 6, 7])) (mkC 3 1 ([5, 6, 7])) 2) ≠ 0) by decide +kernel)⟩
  refine ⟨fun h10 => ?_, fun h10 => absurd h10 (show ¬ ((updE 2 (([[10], [20], [30]] : List (List UInt8)).getD 2 []) ([rowL (mkN 3 1 ([5, 6, 7])) (mkC 3 1 ([5, 6, 7])) 2] : List (List (List UInt8)))) ≠ 0) by decide +kernel)⟩
  refine ⟨fun h11 => absurd h11 (show ¬ ((updH 2 (([[10], [20], [30]] : List (List UInt8)).getD 2 []) ([rowL (mkN 3 1 ([5, 6, 7])) (mkC 3 1 ([5, 6, 7])) 2] : List (List (List UInt8)))) ≠ 2) by decide +kernel), fun h11 => ?_⟩
  refine ⟨⟨rfl, rfl⟩, by show (([rowL (mkN 3 1 ([5, 6, 7])) (mkC 3 1 ([5, 6, 7])) 0] : List (List (List UInt8))) ++ ([rowL (mkN 3 1 ([5, 6, 7])) (mkC 3 1 ([5, 6, 7])) 1] : List (List (List UInt8)))).length + ([rowL (mkN 3 1 ([5, 6, 7])) (mkC 3 1 ([5, 6, 7])) 2] : List (List (List UInt8))).length ≤ 1000000000; simp only [List.length_cons, List.length_nil]; first | omega | decide +kernel, rfl, ⟨rfl, rfl⟩, by show (([(updH 0 (([[10], [20], [30]] : List (List UInt8)).getD 0 []) ([rowL (mkN 3 1 ([5, 6, 7])) (mkC 3 1 ([5, 6, 7])) 0] : List (List (List UInt8))), updS 0 (([[10], [20], [30]] : List (List UInt8)).getD 0 []) ([rowL (mkN 3 1 ([5, 6, 7])) (mkC 3 1 ([5, 6, 7])) 0] : List (List (List UInt8))), ())] : List (Int × (List UInt8 × Unit))) ++ ([(updH 1 (([[10], [20], [30]] : List (List UInt8)).getD 1 []) ([rowL (mkN 3 1 ([5, 6, 7])) (mkC 3 1 ([5, 6, 7])) 1] : List (List (List UInt8))), updS 1 (([[10], [20], [30]] : List (List UInt8)).getD 1 []) ([rowL (mkN 3 1 ([5, 6, 7])) (mkC 3 1 ([5, 6, 7])) 1] : List (List (List UInt8))), ())] : List (Int × (List UInt8 × Unit)))).length + ([(updH 2 (([[10], [20], [30]] : List (List UInt8)).getD 2 []) ([rowL (mkN 3 1 ([5, 6, 7])) (mkC 3 1 ([5, 6, 7])) 2] : List (List (List UInt8))), updS 2 (([[10], [20], [30]] : List (List UInt8)).getD 2 []) ([rowL (mkN 3 1 ([5, 6, 7])) (mkC 3 1 ([5, 6, 7])) 2] : List (List (List UInt8))), ())] : List (Int × (List UInt8 × Unit))).length ≤ 1000000000; simp only [List.length_cons, List.length_nil]; first | omega | decide +kernel, ⟨by show (-9223372036854775808 : Int) ≤ 3; first | omega | decide +kernel, by show 3 ≤ (9223372036854775807 : Int); first | omega | decide +kernel⟩, fun h12 => absurd h12 (show ¬ ((3 : Int) < 3) by decide +kernel), fun h12 => ?_⟩
  refine ⟨fun h13 => ?_, fun h13 => absurd h13 (show ¬ ((mkE 3 1 ([5, 6, 7])) ≠ 0) by decide +kernel)⟩
  refine ⟨⟨by show (0 : Int) ≤ 0; first | omega | decide +kernel, by show 0 < (((([rowL (mkN 3 1 ([5, 6, 7])) (mkC 3 1 ([5, 6, 7])) 0] : List (List (List UInt8))) ++ ([rowL (mkN 3 1 ([5, 6, 7])) (mkC 3 1 ([5, 6, 7])) 1] : List (List (List UInt8)))) ++ ([rowL (mkN 3 1 ([5, 6, 7])) (mkC 3 1 ([5, 6, 7])) 2] : List (List (List UInt8)))).length : Int); first | omega | decide +kernel⟩, ⟨by show (((([rowL (mkN 3 1 ([5, 6, 7])) (mkC 3 1 ([5, 6, 7])) 0] : List (List (List UInt8))) ++ ([rowL (mkN 3 1 ([5, 6, 7])) (mkC 3 1 ([5, 6, 7])) 1] : List (List (List UInt8)))) ++ ([rowL (mkN 3 1 ([5, 6, 7])) (mkC 3 1 ([5, 6, 7])) 2] : List (List (List UInt8)))).getD 0 []).length ≤ 1048576; decide +kernel, by show ([[3], [1]] : List (List UInt8)).length ≤ 1048576; decide +kernel⟩, fun h14 => ?_, fun h14 => absurd h14 (show ¬ (¬ ((((([rowL (mkN 3 1 ([5, 6, 7])) (mkC 3 1 ([5, 6, 7])) 0] : List (List (List UInt8))) ++ ([rowL (mkN 3 1 ([5, 6, 7])) (mkC 3 1 ([5, 6, 7])) 1] : List (List (List UInt8)))) ++ ([rowL (mkN 3 1 ([5, 6, 7])) (mkC 3 1 ([5, 6, 7])) 2] : List (List (List UInt8)))).getD 0 []) = ([[3], [1]] : List (List UInt8)))) by decide +kernel)⟩
  refine ⟨⟨by show (0 : Int) ≤ 1; first | omega | decide +kernel, by show 1 < (((([rowL (mkN 3 1 ([5, 6, 7])) (mkC 3 1 ([5, 6, 7])) 0] : List (List (List UInt8))) ++ ([rowL (mkN 3 1 ([5, 6, 7])) (mkC 3 1 ([5, 6, 7])) 1] : List (List (List UInt8)))) ++ ([rowL (mkN 3 1 ([5, 6, 7])) (mkC 3 1 ([5, 6, 7])) 2] : List (List (List UInt8)))).length : Int); first | omega | decide +kernel⟩, ⟨by show (((([rowL (mkN 3 1 ([5, 6, 7])) (mkC 3 1 ([5, 6, 7])) 0] : List (List (List UInt8))) ++ ([rowL (mkN 3 1 ([5, 6, 7])) (mkC 3 1 ([5, 6, 7])) 1] : List (List (List UInt8)))) ++ ([rowL (mkN 3 1 ([5, 6, 7])) (mkC 3 1 ([5, 6, 7])) 2] : List (List (List UInt8)))).getD 1 []).length ≤ 1048576; decide +kernel, by show ([[9], [8]] : List (List UInt8)).length ≤ 1048576; decide +kernel⟩, fun h15 => ?_, fun h15 => absurd h15 (show ¬ (¬ ((((([rowL (mkN 3 1 ([5, 6, 7])) (mkC 3 1 ([5, 6, 7])) 0] : List (List (List UInt8))) ++ ([rowL (mkN 3 1 ([5, 6, 7])) (mkC 3 1 ([5, 6, 7])) 1] : List (List (List UInt8)))) ++ ([rowL (mkN 3 1 ([5, 6, 7])) (mkC 3 1 ([5, 6, 7])) 2] : List (List (List UInt8)))).getD 1 []) = ([[9], [8]] : List (List UInt8)))) by decide +kernel)⟩
  refine ⟨⟨by show (0 : Int) ≤ 2; first | omega | decide +kernel, by show 2 < (((([rowL (mkN 3 1 ([5, 6, 7])) (mkC 3 1 ([5, 6, 7])) 0] : List (List (List UInt8))) ++ ([rowL (mkN 3 1 ([5, 6, 7])) (mkC 3 1 ([5, 6, 7])) 1] : List (List (List UInt8)))) ++ ([rowL (mkN 3 1 ([5, 6, 7])) (mkC 3 1 ([5, 6, 7])) 2] : List (List (List UInt8)))).length : Int); first | omega | decide +kernel⟩, ⟨by show (((([rowL (mkN 3 1 ([5, 6, 7])) (mkC 3 1 ([5, 6, 7])) 0] : List (List (List UInt8))) ++ ([rowL (mkN 3 1 ([5, 6, 7])) (mkC 3 1 ([5, 6, 7])) 1] : List (List (List UInt8)))) ++ ([rowL (mkN 3 1 ([5, 6, 7])) (mkC 3 1 ([5, 6, 7])) 2] : List (List (List UInt8)))).getD 2 []).length ≤ 1048576; decide +kernel, by show ([[15], [15]] : List (List UInt8)).length ≤ 1048576; decide +kernel⟩, fun h16 => absurd h16 (show ¬ (¬ ((((([rowL (mkN 3 1 ([5, 6, 7])) (mkC 3 1 ([5, 6, 7])) 0] : List (List (List UInt8))) ++ ([rowL (mkN 3 1 ([5, 6, 7])) (mkC 3 1 ([5, 6, 7])) 1] : List (List (List UInt8)))) ++ ([rowL (mkN 3 1 ([5, 6, 7])) (mkC 3 1 ([5, 6, 7])) 2] : List (List (List UInt8)))).getD 2 []) = ([[15], [15]] : List (List UInt8)))) by decide +kernel), fun h16 => ?_⟩
  refine ⟨⟨by show (0 : Int) ≤ 0; first | omega | decide +kernel, by show 0 < (((([rowL (mkN 3 1 ([5, 6, 7])) (mkC 3 1 ([5, 6, 7])) 0] : List (List (List UInt8))) ++ ([rowL (mkN 3 1 ([5, 6, 7])) (mkC 3 1 ([5, 6, 7])) 1] : List (List (List UInt8)))) ++ ([rowL (mkN 3 1 ([5, 6, 7])) (mkC 3 1 ([5, 6, 7])) 2] : List (List (List UInt8)))).length : Int); first | omega | decide +kernel⟩, rfl, by show (((([rowL (mkN 3 1 ([5, 6, 7])) (mkC 3 1 ([5, 6, 7])) 0] : List (List (List UInt8))) ++ ([rowL (mkN 3 1 ([5, 6, 7])) (mkC 3 1 ([5, 6, 7])) 1] : List (List (List UInt8)))) ++ ([rowL (mkN 3 1 ([5, 6, 7])) (mkC 3 1 ([5, 6, 7])) 2] : List (List (List UInt8)))).getD 0 []).length ≤ 1048576; decide +kernel, ⟨by show (0 : Int) ≤ 1; first | omega | decide +kernel, by show 1 < (((([rowL (mkN 3 1 ([5, 6, 7])) (mkC 3 1 ([5, 6, 7])) 0] : List (List (List UInt8))) ++ ([rowL (mkN 3 1 ([5, 6, 7])) (mkC 3 1 ([5, 6, 7])) 1] : List (List (List UInt8)))) ++ ([rowL (mkN 3 1 ([5, 6, 7])) (mkC 3 1 ([5, 6, 7])) 2] : List (List (List UInt8)))).length : Int); first | omega | decide +kernel⟩, rfl, by show (((([rowL (mkN 3 1 ([5, 6, 7])) (mkC 3 1 ([5, 6, 7])) 0] : List (List (List UInt8))) ++ ([rowL (mkN 3 1 ([5, 6, 7])) (mkC 3 1 ([5, 6, 7])) 1] : List (List (List UInt8)))) ++ ([rowL (mkN 3 1 ([5, 6, 7])) (mkC 3 1 ([5, 6, 7])) 2] : List (List (List UInt8)))).getD 1 []).length ≤ 1048576; decide +kernel, by kernel_rfl, ⟨by show (0 : Int) ≤ 1; first | omega | decide +kernel, by show 1 < (((([rowL (mkN 3 1 ([5, 6, 7])) (mkC 3 1 ([5, 6, 7])) 0] : List (List (List UInt8))) ++ ([rowL (mkN 3 1 ([5, 6, 7])) (mkC 3 1 ([5, 6, 7])) 1] : List (List (List UInt8)))) ++ ([rowL (mkN 3 1 ([5, 6, 7])) (mkC 3 1 ([5, 6, 7])) 2] : List (List (List UInt8)))).length : Int); first | omega | decide +kernel⟩, ⟨by show (0 : Int) ≤ 2; first | omega | decide +kernel, by show 2 < (((([rowL (mkN 3 1 ([5, 6, 7])) (mkC 3 1 ([5, 6, 7])) 0] : List (List (List UInt8))) ++ ([rowL (mkN 3 1 ([5, 6, 7])) (mkC 3 1 ([5, 6, 7])) 1] : List (List (List UInt8)))) ++ ([rowL (mkN 3 1 ([5, 6, 7])) (mkC 3 1 ([5, 6, 7])) 2] : List (List (List UInt8)))).length : Int); first | omega | decide +kernel⟩, rfl, rfl, ⟨by show (((([rowL (mkN 3 1 ([5, 6, 7])) (mkC 3 1 ([5, 6, 7])) 0] : List (List (List UInt8))) ++ ([rowL (mkN 3 1 ([5, 6, 7])) (mkC 3 1 ([5, 6, 7])) 1] : List (List (List UInt8)))) ++ ([rowL (mkN 3 1 ([5, 6, 7])) (mkC 3 1 ([5, 6, 7])) 2] : List (List (List UInt8)))).getD 1 []).length ≤ 1048576; decide +kernel, by show (((([rowL (mkN 3 1 ([5, 6, 7])) (mkC 3 1 ([5, 6, 7])) 0] : List (List (List UInt8))) ++ ([rowL (mkN 3 1 ([5, 6, 7])) (mkC 3 1 ([5, 6, 7])) 1] : List (List (List UInt8)))) ++ ([rowL (mkN 3 1 ([5, 6, 7])) (mkC 3 1 ([5, 6, 7])) 2] : List (List (List UInt8)))).getD 2 []).length ≤ 1048576; decide +kernel⟩, ⟨by show ((([rowL (mkN 3 1 ([5, 6, 7])) (mkC 3 1 ([5, 6, 7])) 0] : List (List (List UInt8))) ++ ([rowL (mkN 3 1 ([5, 6, 7])) (mkC 3 1 ([5, 6, 7])) 1] : List (List (List UInt8)))) ++ ([rowL (mkN 3 1 ([5, 6, 7])) (mkC 3 1 ([5, 6, 7])) 2] : List (List (List UInt8)))).length ≤ 1048576; decide +kernel, by show (∀ l ∈ ((([rowL (mkN 3 1 ([5, 6, 7])) (mkC 3 1 ([5, 6, 7])) 0] : List (List (List UInt8))) ++ ([rowL (mkN 3 1 ([5, 6, 7])) (mkC 3 1 ([5, 6, 7])) 1] : List (List (List UInt8)))) ++ ([rowL (mkN 3 1 ([5, 6, 7])) (mkC 3 1 ([5, 6, 7])) 2] : List (List (List UInt8)))), l.length ≤ 1048576 ∧ ∀ x ∈ l, x.length ≤ 1048576); decide +kernel⟩, by kernel_rfl, ⟨by show (0 : Int) ≤ 0; first | omega | decide +kernel, by show 0 < (((([rowL (mkN 3 1 ([5, 6, 7])) (mkC 3 1 ([5, 6, 7])) 0] : List (List (List UInt8))) ++ ([rowL (mkN 3 1 ([5, 6, 7])) (mkC 3 1 ([5, 6, 7])) 1] : List (List (List UInt8)))) ++ ([rowL (mkN 3 1 ([5, 6, 7])) (mkC 3 1 ([5, 6, 7])) 2] : List (List (List UInt8)))).length : Int); first | omega | decide +kernel⟩, ⟨by show (0 : Int) ≤ 2; first | omega | decide +kernel, by show 2 < (((([rowL (mkN 3 1 ([5, 6, 7])) (mkC 3 1 ([5, 6, 7])) 0] : List (List (List UInt8))) ++ ([rowL (mkN 3 1 ([5, 6, 7])) (mkC 3 1 ([5, 6, 7])) 1] : List (List (List UInt8)))) ++ ([rowL (mkN 3 1 ([5, 6, 7])) (mkC 3 1 ([5, 6, 7])) 2] : List (List (List UInt8)))).length : Int); first | omega | decide +kernel⟩, ⟨by show ([(((([rowL (mkN 3 1 ([5, 6, 7])) (mkC 3 1 ([5, 6, 7])) 0] : List (List (List UInt8))) ++ ([rowL (mkN 3 1 ([5, 6, 7])) (mkC 3 1 ([5, 6, 7])) 1] : List (List (List UInt8)))) ++ ([rowL (mkN 3 1 ([5, 6, 7])) (mkC 3 1 ([5, 6, 7])) 2] : List (List (List UInt8)))).getD 0 []), ([[9], [9]] : List (List UInt8)), (((([rowL (mkN 3 1 ([5, 6, 7])) (mkC 3 1 ([5, 6, 7])) 0] : List (List (List UInt8))) ++ ([rowL (mkN 3 1 ([5, 6, 7])) (mkC 3 1 ([5, 6, 7])) 1] : List (List (List UInt8)))) ++ ([rowL (mkN 3 1 ([5, 6, 7])) (mkC 3 1 ([5, 6, 7])) 2] : List (List (List UInt8)))).getD 2 [])]).length ≤ 1048576; decide +kernel, by show (∀ l ∈ ([(((([rowL (mkN 3 1 ([5, 6, 7])) (mkC 3 1 ([5, 6, 7])) 0] : List (List (List UInt8))) ++ ([rowL (mkN 3 1 ([5, 6, 7])) (mkC 3 1 ([5, 6, 7])) 1] : List (List (List UInt8)))) ++ ([rowL (mkN 3 1 ([5, 6, 7])) (mkC 3 1 ([5, 6, 7])) 2] : List (List (List UInt8)))).getD 0 []), ([[9], [9]] : List (List UInt8)), (((([rowL (mkN 3 1 ([5, 6, 7])) (mkC 3 1 ([5, 6, 7])) 0] : List (List (List UInt8))) ++ ([rowL (mkN 3 1 ([5, 6, 7])) (mkC 3 1 ([5, 6, 7])) 1] : List (List (List UInt8)))) ++ ([rowL (mkN 3 1 ([5, 6, 7])) (mkC 3 1 ([5, 6, 7])) 2] : List (List (List UInt8)))).getD 2 [])]), l.length ≤ 1048576 ∧ ∀ x ∈ l, x.length ≤ 1048576); decide +kernel⟩, ⟨by first | omega | decide +kernel, by first | omega | decide +kernel⟩, rfl, ⟨by show ((((([rowL (mkN 3 1 ([5, 6, 7])) (mkC 3 1 ([5, 6, 7])) 0] : List (List (List UInt8))) ++ ([rowL (mkN 3 1 ([5, 6, 7])) (mkC 3 1 ([5, 6, 7])) 1] : List (List (List UInt8)))) ++ ([rowL (mkN 3 1 ([5, 6, 7])) (mkC 3 1 ([5, 6, 7])) 2] : List (List (List UInt8)))).drop 0).take (2 - 0)).length ≤ 1048576; decide +kernel, by show (∀ l ∈ ((((([rowL (mkN 3 1 ([5, 6, 7])) (mkC 3 1 ([5, 6, 7])) 0] : List (List (List UInt8))) ++ ([rowL (mkN 3 1 ([5, 6, 7])) (mkC 3 1 ([5, 6, 7])) 1] : List (List (List UInt8)))) ++ ([rowL (mkN 3 1 ([5, 6, 7])) (mkC 3 1 ([5, 6, 7])) 2] : List (List (List UInt8)))).drop 0).take (2 - 0)), l.length ≤ 1048576 ∧ ∀ x ∈ l, x.length ≤ 1048576); decide +kernel⟩, rfl, ⟨by show ([(((([rowL (mkN 3 1 ([5, 6, 7])) (mkC 3 1 ([5, 6, 7])) 0] : List (List (List UInt8))) ++ ([rowL (mkN 3 1 ([5, 6, 7])) (mkC 3 1 ([5, 6, 7])) 1] : List (List (List UInt8)))) ++ ([rowL (mkN 3 1 ([5, 6, 7])) (mkC 3 1 ([5, 6, 7])) 2] : List (List (List UInt8)))).getD 0 []), ([[9], [9]] : List (List UInt8)), (((([rowL (mkN 3 1 ([5, 6, 7])) (mkC 3 1 ([5, 6, 7])) 0] : List (List (List UInt8))) ++ ([rowL (mkN 3 1 ([5, 6, 7])) (mkC 3 1 ([5, 6, 7])) 1] : List (List (List UInt8)))) ++ ([rowL (mkN 3 1 ([5, 6, 7])) (mkC 3 1 ([5, 6, 7])) 2] : List (List (List UInt8)))).getD 2 [])]).length ≤ 1048576; decide +kernel, by show (∀ l ∈ ([(((([rowL (mkN 3 1 ([5, 6, 7])) (mkC 3 1 ([5, 6, 7])) 0] : List (List (List UInt8))) ++ ([rowL (mkN 3 1 ([5, 6, 7])) (mkC 3 1 ([5, 6, 7])) 1] : List (List (List UInt8)))) ++ ([rowL (mkN 3 1 ([5, 6, 7])) (mkC 3 1 ([5, 6, 7])) 2] : List (List (List UInt8)))).getD 0 []), ([[9], [9]] : List (List UInt8)), (((([rowL (mkN 3 1 ([5, 6, 7])) (mkC 3 1 ([5, 6, 7])) 0] : List (List (List UInt8))) ++ ([rowL (mkN 3 1 ([5, 6, 7])) (mkC 3 1 ([5, 6, 7])) 1] : List (List (List UInt8)))) ++ ([rowL (mkN 3 1 ([5, 6, 7])) (mkC 3 1 ([5, 6, 7])) 2] : List (List (List UInt8)))).getD 2 [])]), l.length ≤ 1048576 ∧ ∀ x ∈ l, x.length ≤ 1048576); decide +kernel⟩, ⟨by first | omega | decide +kernel, by first | omega | decide +kernel⟩, rfl, ⟨by show ((((([rowL (mkN 3 1 ([5, 6, 7])) (mkC 3 1 ([5, 6, 7])) 0] : List (List (List UInt8))) ++ ([rowL (mkN 3 1 ([5, 6, 7])) (mkC 3 1 ([5, 6, 7])) 1] : List (List (List UInt8)))) ++ ([rowL (mkN 3 1 ([5, 6, 7])) (mkC 3 1 ([5, 6, 7])) 2] : List (List (List UInt8)))).drop 0).take (1 - 0)).length ≤ 1048576; decide +kernel, by show (∀ l ∈ ((((([rowL (mkN 3 1 ([5, 6, 7])) (mkC 3 1 ([5, 6, 7])) 0] : List (List (List UInt8))) ++ ([rowL (mkN 3 1 ([5, 6, 7])) (mkC 3 1 ([5, 6, 7])) 1] : List (List (List UInt8)))) ++ ([rowL (mkN 3 1 ([5, 6, 7])) (mkC 3 1 ([5, 6, 7])) 2] : List (List (List UInt8)))).drop 0).take (1 - 0)), l.length ≤ 1048576 ∧ ∀ x ∈ l, x.length ≤ 1048576); decide +kernel⟩, fun h17 => ?_, fun h17 => absurd h17 (show ¬ ((valE (((([rowL (mkN 3 1 ([5, 6, 7])) (mkC 3 1 ([5, 6, 7])) 0] : List (List (List UInt8))) ++ ([rowL (mkN 3 1 ([5, 6, 7])) (mkC 3 1 ([5, 6, 7])) 1] : List (List (List UInt8)))) ++ ([rowL (mkN 3 1 ([5, 6, 7])) (mkC 3 1 ([5, 6, 7])) 2] : List (List (List UInt8)))).getD 0 []) 1) ≠ 0) by decide +kernel)⟩
  refine ⟨fun h18 => ?_, fun h18 => absurd h18 (show ¬ ((valE (((([rowL (mkN 3 1 ([5, 6, 7])) (mkC 3 1 ([5, 6, 7])) 0] : List (List (List UInt8))) ++ ([rowL (mkN 3 1 ([5, 6, 7])) (mkC 3 1 ([5, 6, 7])) 1] : List (List (List UInt8)))) ++ ([rowL (mkN 3 1 ([5, 6, 7])) (mkC 3 1 ([5, 6, 7])) 2] : List (List (List UInt8)))).getD 1 []) 0) ≠ 0) by decide +kernel)⟩
  refine ⟨fun h19 => ?_, fun h19 => absurd h19 (show ¬ ((agE (((([rowL (mkN 3 1 ([5, 6, 7])) (mkC 3 1 ([5, 6, 7])) 0] : List (List (List UInt8))) ++ ([rowL (mkN 3 1 ([5, 6, 7])) (mkC 3 1 ([5, 6, 7])) 1] : List (List (List UInt8)))) ++ ([rowL (mkN 3 1 ([5, 6, 7])) (mkC 3 1 ([5, 6, 7])) 2] : List (List (List UInt8)))).getD 1 []) 1 (((([rowL (mkN 3 1 ([5, 6, 7])) (mkC 3 1 ([5, 6, 7])) 0] : List (List (List UInt8))) ++ ([rowL (mkN 3 1 ([5, 6, 7])) (mkC 3 1 ([5, 6, 7])) 1] : List (List (List UInt8)))) ++ ([rowL (mkN 3 1 ([5, 6, 7])) (mkC 3 1 ([5, 6, 7])) 2] : List (List (List UInt8)))).getD 2 []) 2) ≠ 0) by decide +kernel)⟩
  refine ⟨fun h20 => ?_, fun h20 => absurd h20 (show ¬ ((cmpE ((([rowL (mkN 3 1 ([5, 6, 7])) (mkC 3 1 ([5, 6, 7])) 0] : List (List (List UInt8))) ++ ([rowL (mkN 3 1 ([5, 6, 7])) (mkC 3 1 ([5, 6, 7])) 1] : List (List (List UInt8)))) ++ ([rowL (mkN 3 1 ([5, 6, 7])) (mkC 3 1 ([5, 6, 7])) 2] : List (List (List UInt8))))) ≠ 0) by decide +kernel)⟩
  refine ⟨fun h21 => ?_, fun h21 => absurd h21 (show ¬ ((cmpE ([(((([rowL (mkN 3 1 ([5, 6, 7])) (mkC 3 1 ([5, 6, 7])) 0] : List (List (List UInt8))) ++ ([rowL (mkN 3 1 ([5, 6, 7])) (mkC 3 1 ([5, 6, 7])) 1] : List (List (List UInt8)))) ++ ([rowL (mkN 3 1 ([5, 6, 7])) (mkC 3 1 ([5, 6, 7])) 2] : List (List (List UInt8)))).getD 0 []), ([[9], [9]] : List (List UInt8)), (((([rowL (mkN 3 1 ([5, 6, 7])) (mkC 3 1 ([5, 6, 7])) 0] : List (List (List UInt8))) ++ ([rowL (mkN 3 1 ([5, 6, 7])) (mkC 3 1 ([5, 6, 7])) 1] : List (List (List UInt8)))) ++ ([rowL (mkN 3 1 ([5, 6, 7])) (mkC 3 1 ([5, 6, 7])) 2] : List (List (List UInt8)))).getD 2 [])])) ≠ 0) by decide +kernel)⟩
  refine ⟨fun h22 => ?_, fun h22 => absurd h22 (show ¬ ((rflE ((((([rowL (mkN 3 1 ([5, 6, 7])) (mkC 3 1 ([5, 6, 7])) 0] : List (List (List UInt8))) ++ ([rowL (mkN 3 1 ([5, 6, 7])) (mkC 3 1 ([5, 6, 7])) 1] : List (List (List UInt8)))) ++ ([rowL (mkN 3 1 ([5, 6, 7])) (mkC 3 1 ([5, 6, 7])) 2] : List (List (List UInt8)))).drop 0).take (2 - 0)) 2) ≠ 0) by decide +kernel)⟩
  refine ⟨fun h23 => ?_, fun h23 => absurd h23 (show ¬ ((rflE ([(((([rowL (mkN 3 1 ([5, 6, 7])) (mkC 3 1 ([5, 6, 7])) 0] : List (List (List UInt8))) ++ ([rowL (mkN 3 1 ([5, 6, 7])) (mkC 3 1 ([5, 6, 7])) 1] : List (List (List UInt8)))) ++ ([rowL (mkN 3 1 ([5, 6, 7])) (mkC 3 1 ([5, 6, 7])) 2] : List (List (List UInt8)))).getD 0 []), ([[9], [9]] : List (List UInt8)), (((([rowL (mkN 3 1 ([5, 6, 7])) (mkC 3 1 ([5, 6, 7])) 0] : List (List (List UInt8))) ++ ([rowL (mkN 3 1 ([5, 6, 7])) (mkC 3 1 ([5, 6, 7])) 1] : List (List (List UInt8)))) ++ ([rowL (mkN 3 1 ([5, 6, 7])) (mkC 3 1 ([5, 6, 7])) 2] : List (List (List UInt8)))).getD 2 [])]) 2) ≠ 4) by decide +kernel)⟩
  refine ⟨fun h24 => absurd h24 (show ¬ ((rflE ((((([rowL (mkN 3 1 ([5, 6, 7])) (mkC 3 1 ([5, 6, 7])) 0] : List (List (List UInt8))) ++ ([rowL (mkN 3 1 ([5, 6, 7])) (mkC 3 1 ([5, 6, 7])) 1] : List (List (List UInt8)))) ++ ([rowL (mkN 3 1 ([5, 6, 7])) (mkC 3 1 ([5, 6, 7])) 2] : List (List (List UInt8)))).drop 0).take (1 - 0)) 2) ≠ 17) by decide +kernel), fun h24 => ?_⟩
  refine ⟨fun h25 => ?_, fun h25 => absurd (show (valS (((([rowL (mkN 3 1 ([5, 6, 7])) (mkC 3 1 ([5, 6, 7])) 0] : List (List (List UInt8))) ++ ([rowL (mkN 3 1 ([5, 6, 7])) (mkC 3 1 ([5, 6, 7])) 1] : List (List (List UInt8)))) ++ ([rowL (mkN 3 1 ([5, 6, 7])) (mkC 3 1 ([5, 6, 7])) 2] : List (List (List UInt8)))).getD 0 []) 1) = ([1]) by decide +kernel) h25⟩
  refine ⟨fun h26 => ?_, fun h26 => absurd (show (valS (((([rowL (mkN 3 1 ([5, 6, 7])) (mkC 3 1 ([5, 6, 7])) 0] : List (List (List UInt8))) ++ ([rowL (mkN 3 1 ([5, 6, 7])) (mkC 3 1 ([5, 6, 7])) 1] : List (List (List UInt8)))) ++ ([rowL (mkN 3 1 ([5, 6, 7])) (mkC 3 1 ([5, 6, 7])) 2] : List (List (List UInt8)))).getD 1 []) 0) = ([1]) by decide +kernel) h26⟩
  refine ⟨fun h27 => ?_, fun h27 => absurd (show agQ (((([rowL (mkN 3 1 ([5, 6, 7])) (mkC 3 1 ([5, 6, 7])) 0] : List (List (List UInt8))) ++ ([rowL (mkN 3 1 ([5, 6, 7])) (mkC 3 1 ([5, 6, 7])) 1] : List (List (List UInt8)))) ++ ([rowL (mkN 3 1 ([5, 6, 7])) (mkC 3 1 ([5, 6, 7])) 2] : List (List (List UInt8)))).getD 1 []) 1 (((([rowL (mkN 3 1 ([5, 6, 7])) (mkC 3 1 ([5, 6, 7])) 0] : List (List (List UInt8))) ++ ([rowL (mkN 3 1 ([5, 6, 7])) (mkC 3 1 ([5, 6, 7])) 1] : List (List (List UInt8)))) ++ ([rowL (mkN 3 1 ([5, 6, 7])) (mkC 3 1 ([5, 6, 7])) 2] : List (List (List UInt8)))).getD 2 []) 2 by decide +kernel) h27⟩
  refine ⟨fun h28 => ?_, fun h28 => absurd (show (((cmpL ((([rowL (mkN 3 1 ([5, 6, 7])) (mkC 3 1 ([5, 6, 7])) 0] : List (List (List UInt8))) ++ ([rowL (mkN 3 1 ([5, 6, 7])) (mkC 3 1 ([5, 6, 7])) 1] : List (List (List UInt8)))) ++ ([rowL (mkN 3 1 ([5, 6, 7])) (mkC 3 1 ([5, 6, 7])) 2] : List (List (List UInt8))))).length : Nat) : Int) = 0 by decide +kernel) h28⟩
  refine ⟨rfl, rfl, rfl, rfl, ⟨by show (cmpL ([(((([rowL (mkN 3 1 ([5, 6, 7])) (mkC 3 1 ([5, 6, 7])) 0] : List (List (List UInt8))) ++ ([rowL (mkN 3 1 ([5, 6, 7])) (mkC 3 1 ([5, 6, 7])) 1] : List (List (List UInt8)))) ++ ([rowL (mkN 3 1 ([5, 6, 7])) (mkC 3 1 ([5, 6, 7])) 2] : List (List (List UInt8)))).getD 0 []), ([[9], [9]] : List (List UInt8)), (((([rowL (mkN 3 1 ([5, 6, 7])) (mkC 3 1 ([5, 6, 7])) 0] : List (List (List UInt8))) ++ ([rowL (mkN 3 1 ([5, 6, 7])) (mkC 3 1 ([5, 6, 7])) 1] : List (List (List UInt8)))) ++ ([rowL (mkN 3 1 ([5, 6, 7])) (mkC 3 1 ([5, 6, 7])) 2] : List (List (List UInt8)))).getD 2 [])])).length ≤ 1048576; decide +kernel, by show ([([0, 1] : List Int), ([1, 2] : List Int)] : List (List Int)).length ≤ 1048576; decide +kernel⟩, fun h29 => ?_, fun h29 => absurd (show (cmpL ([(((([rowL (mkN 3 1 ([5, 6, 7])) (mkC 3 1 ([5, 6, 7])) 0] : List (List (List UInt8))) ++ ([rowL (mkN 3 1 ([5, 6, 7])) (mkC 3 1 ([5, 6, 7])) 1] : List (List (List UInt8)))) ++ ([rowL (mkN 3 1 ([5, 6, 7])) (mkC 3 1 ([5, 6, 7])) 2] : List (List (List UInt8)))).getD 0 []), ([[9], [9]] : List (List UInt8)), (((([rowL (mkN 3 1 ([5, 6, 7])) (mkC 3 1 ([5, 6, 7])) 0] : List (List (List UInt8))) ++ ([rowL (mkN 3 1 ([5, 6, 7])) (mkC 3 1 ([5, 6, 7])) 1] : List (List (List UInt8)))) ++ ([rowL (mkN 3 1 ([5, 6, 7])) (mkC 3 1 ([5, 6, 7])) 2] : List (List (List UInt8)))).getD 2 [])])) = ([([0, 1] : List Int), ([1, 2] : List Int)] : List (List Int)) by decide +kernel) h29⟩
  refine ⟨⟨by show (0 : Int) ≤ 2; first | omega | decide +kernel, by show 2 < (((([rowL (mkN 3 1 ([5, 6, 7])) (mkC 3 1 ([5, 6, 7])) 0] : List (List (List UInt8))) ++ ([rowL (mkN 3 1 ([5, 6, 7])) (mkC 3 1 ([5, 6, 7])) 1] : List (List (List UInt8)))) ++ ([rowL (mkN 3 1 ([5, 6, 7])) (mkC 3 1 ([5, 6, 7])) 2] : List (List (List UInt8)))).length : Int); first | omega | decide +kernel⟩, ⟨by show (rflL ((((([rowL (mkN 3 1 ([5, 6, 7])) (mkC 3 1 ([5, 6, 7])) 0] : List (List (List UInt8))) ++ ([rowL (mkN 3 1 ([5, 6, 7])) (mkC 3 1 ([5, 6, 7])) 1] : List (List (List UInt8)))) ++ ([rowL (mkN 3 1 ([5, 6, 7])) (mkC 3 1 ([5, 6, 7])) 2] : List (List (List UInt8)))).drop 0).take (2 - 0)) 2).length ≤ 1048576; decide +kernel, by show (((([rowL (mkN 3 1 ([5, 6, 7])) (mkC 3 1 ([5, 6, 7])) 0] : List (List (List UInt8))) ++ ([rowL (mkN 3 1 ([5, 6, 7])) (mkC 3 1 ([5, 6, 7])) 1] : List (List (List UInt8)))) ++ ([rowL (mkN 3 1 ([5, 6, 7])) (mkC 3 1 ([5, 6, 7])) 2] : List (List (List UInt8)))).getD 2 []).length ≤ 1048576; decide +kernel⟩, fun h30 => ?_, fun h30 => absurd (show (rflL ((((([rowL (mkN 3 1 ([5, 6, 7])) (mkC 3 1 ([5, 6, 7])) 0] : List (List (List UInt8))) ++ ([rowL (mkN 3 1 ([5, 6, 7])) (mkC 3 1 ([5, 6, 7])) 1] : List (List (List UInt8)))) ++ ([rowL (mkN 3 1 ([5, 6, 7])) (mkC 3 1 ([5, 6, 7])) 2] : List (List (List UInt8)))).drop 0).take (2 - 0)) 2) = (((([rowL (mkN 3 1 ([5, 6, 7])) (mkC 3 1 ([5, 6, 7])) 0] : List (List (List UInt8))) ++ ([rowL (mkN 3 1 ([5, 6, 7])) (mkC 3 1 ([5, 6, 7])) 1] : List (List (List UInt8)))) ++ ([rowL (mkN 3 1 ([5, 6, 7])) (mkC 3 1 ([5, 6, 7])) 2] : List (List (List UInt8)))).getD 2 []) by decide +kernel) h30⟩
  refine ⟨⟨by show (0 : Int) ≤ 0; first | omega | decide +kernel, by show 0 < (((([(updH 0 (([[10], [20], [30]] : List (List UInt8)).getD 0 []) ([rowL (mkN 3 1 ([5, 6, 7])) (mkC 3 1 ([5, 6, 7])) 0] : List (List (List UInt8))), updS 0 (([[10], [20], [30]] : List (List UInt8)).getD 0 []) ([rowL (mkN 3 1 ([5, 6, 7])) (mkC 3 1 ([5, 6, 7])) 0] : List (List (List UInt8))), ())] : List (Int × (List UInt8 × Unit))) ++ ([(updH 1 (([[10], [20], [30]] : List (List UInt8)).getD 1 []) ([rowL (mkN 3 1 ([5, 6, 7])) (mkC 3 1 ([5, 6, 7])) 1] : List (List (List UInt8))), updS 1 (([[10], [20], [30]] : List (List UInt8)).getD 1 []) ([rowL (mkN 3 1 ([5, 6, 7])) (mkC 3 1 ([5, 6, 7])) 1] : List (List (List UInt8))), ())] : List (Int × (List UInt8 × Unit)))) ++ ([(updH 2 (([[10], [20], [30]] : List (List UInt8)).getD 2 []) ([rowL (mkN 3 1 ([5, 6, 7])) (mkC 3 1 ([5, 6, 7])) 2] : List (List (List UInt8))), updS 2 (([[10], [20], [30]] : List (List UInt8)).getD 2 []) ([rowL (mkN 3 1 ([5, 6, 7])) (mkC 3 1 ([5, 6, 7])) 2] : List (List (List UInt8))), ())] : List (Int × (List UInt8 × Unit)))).length : Int); first | omega | decide +kernel⟩, fun h31 => ?_, fun h31 => absurd (show (((((([(updH 0 (([[10], [20], [30]] : List (List UInt8)).getD 0 []) ([rowL (mkN 3 1 ([5, 6, 7])) (mkC 3 1 ([5, 6, 7])) 0] : List (List (List UInt8))), updS 0 (([[10], [20], [30]] : List (List UInt8)).getD 0 []) ([rowL (mkN 3 1 ([5, 6, 7])) (mkC 3 1 ([5, 6, 7])) 0] : List (List (List UInt8))), ())] : List (Int × (List UInt8 × Unit))) ++ ([(updH 1 (([[10], [20], [30]] : List (List UInt8)).getD 1 []) ([rowL (mkN 3 1 ([5, 6, 7])) (mkC 3 1 ([5, 6, 7])) 1] : List (List (List UInt8))), updS 1 (([[10], [20], [30]] : List (List UInt8)).getD 1 []) ([rowL (mkN 3 1 ([5, 6, 7])) (mkC 3 1 ([5, 6, 7])) 1] : List (List (List UInt8))), ())] : List (Int × (List UInt8 × Unit)))) ++ ([(updH 2 (([[10], [20], [30]] : List (List UInt8)).getD 2 []) ([rowL (mkN 3 1 ([5, 6, 7])) (mkC 3 1 ([5, 6, 7])) 2] : List (List (List UInt8))), updS 2 (([[10], [20], [30]] : List (List UInt8)).getD 2 []) ([rowL (mkN 3 1 ([5, 6, 7])) (mkC 3 1 ([5, 6, 7])) 2] : List (List (List UInt8))), ())] : List (Int × (List UInt8 × Unit)))).getD 0 (0, ([], ()))).2).1) = ([9]) by decide +kernel) h31⟩
  refine ⟨⟨by show (0 : Int) ≤ 1; first | omega | decide +kernel, by show 1 < (((([(updH 0 (([[10], [20], [30]] : List (List UInt8)).getD 0 []) ([rowL (mkN 3 1 ([5, 6, 7])) (mkC 3 1 ([5, 6, 7])) 0] : List (List (List UInt8))), updS 0 (([[10], [20], [30]] : List (List UInt8)).getD 0 []) ([rowL (mkN 3 1 ([5, 6, 7])) (mkC 3 1 ([5, 6, 7])) 0] : List (List (List UInt8))), ())] : List (Int × (List UInt8 × Unit))) ++ ([(updH 1 (([[10], [20], [30]] : List (List UInt8)).getD 1 []) ([rowL (mkN 3 1 ([5, 6, 7])) (mkC 3 1 ([5, 6, 7])) 1] : List (List (List UInt8))), updS 1 (([[10], [20], [30]] : List (List UInt8)).getD 1 []) ([rowL (mkN 3 1 ([5, 6, 7])) (mkC 3 1 ([5, 6, 7])) 1] : List (List (List UInt8))), ())] : List (Int × (List UInt8 × Unit)))) ++ ([(updH 2 (([[10], [20], [30]] : List (List UInt8)).getD 2 []) ([rowL (mkN 3 1 ([5, 6, 7])) (mkC 3 1 ([5, 6, 7])) 2] : List (List (List UInt8))), updS 2 (([[10], [20], [30]] : List (List UInt8)).getD 2 []) ([rowL (mkN 3 1 ([5, 6, 7])) (mkC 3 1 ([5, 6, 7])) 2] : List (List (List UInt8))), ())] : List (Int × (List UInt8 × Unit)))).length : Int); first | omega | decide +kernel⟩, fun h32 => ?_, fun h32 => absurd (show (((((([(updH 0 (([[10], [20], [30]] : List (List UInt8)).getD 0 []) ([rowL (mkN 3 1 ([5, 6, 7])) (mkC 3 1 ([5, 6, 7])) 0] : List (List (List UInt8))), updS 0 (([[10], [20], [30]] : List (List UInt8)).getD 0 []) ([rowL (mkN 3 1 ([5, 6, 7])) (mkC 3 1 ([5, 6, 7])) 0] : List (List (List UInt8))), ())] : List (Int × (List UInt8 × Unit))) ++ ([(updH 1 (([[10], [20], [30]] : List (List UInt8)).getD 1 []) ([rowL (mkN 3 1 ([5, 6, 7])) (mkC 3 1 ([5, 6, 7])) 1] : List (List (List UInt8))), updS 1 (([[10], [20], [30]] : List (List UInt8)).getD 1 []) ([rowL (mkN 3 1 ([5, 6, 7])) (mkC 3 1 ([5, 6, 7])) 1] : List (List (List UInt8))), ())] : List (Int × (List UInt8 × Unit)))) ++ ([(updH 2 (([[10], [20], [30]] : List (List UInt8)).getD 2 []) ([rowL (mkN 3 1 ([5, 6, 7])) (mkC 3 1 ([5, 6, 7])) 2] : List (List (List UInt8))), updS 2 (([[10], [20], [30]] : List (List UInt8)).getD 2 []) ([rowL (mkN 3 1 ([5, 6, 7])) (mkC 3 1 ([5, 6, 7])) 2] : List (List (List UInt8))), ())] : List (Int × (List UInt8 × Unit)))).getD 1 (0, ([], ()))).2).1) = ([6]) by decide +kernel) h32⟩
  refine ⟨⟨by show (0 : Int) ≤ 2; first | omega | decide +kernel, by show 2 < (((([(updH 0 (([[10], [20], [30]] : List (List UInt8)).getD 0 []) ([rowL (mkN 3 1 ([5, 6, 7])) (mkC 3 1 ([5, 6, 7])) 0] : List (List (List UInt8))), updS 0 (([[10], [20], [30]] : List (List UInt8)).getD 0 []) ([rowL (mkN 3 1 ([5, 6, 7])) (mkC 3 1 ([5, 6, 7])) 0] : List (List (List UInt8))), ())] : List (Int × (List UInt8 × Unit))) ++ ([(updH 1 (([[10], [20], [30]] : List (List UInt8)).getD 1 []) ([rowL (mkN 3 1 ([5, 6, 7])) (mkC 3 1 ([5, 6, 7])) 1] : List (List (List UInt8))), updS 1 (([[10], [20], [30]] : List (List UInt8)).getD 1 []) ([rowL (mkN 3 1 ([5, 6, 7])) (mkC 3 1 ([5, 6, 7])) 1] : List (List (List UInt8))), ())] : List (Int × (List UInt8 × Unit)))) ++ ([(updH 2 (([[10], [20], [30]] : List (List UInt8)).getD 2 []) ([rowL (mkN 3 1 ([5, 6, 7])) (mkC 3 1 ([5, 6, 7])) 2] : List (List (List UInt8))), updS 2 (([[10], [20], [30]] : List (List UInt8)).getD 2 []) ([rowL (mkN 3 1 ([5, 6, 7])) (mkC 3 1 ([5, 6, 7])) 2] : List (List (List UInt8))), ())] : List (Int × (List UInt8 × Unit)))).length : Int); first | omega | decide +kernel⟩, ?_⟩
  exact ⟨rfl, rfl, congrArg V.b (propext ⟨fun _ => trivial, fun _ => by show (((((([(updH 0 (([[10], [20], [30]] : List (List UInt8)).getD 0 []) ([rowL (mkN 3 1 ([5, 6, 7])) (mkC 3 1 ([5, 6, 7])) 0] : List (List (List UInt8))), updS 0 (([[10], [20], [30]] : List (List UInt8)).getD 0 []) ([rowL (mkN 3 1 ([5, 6, 7])) (mkC 3 1 ([5, 6, 7])) 0] : List (List (List UInt8))), ())] : List (Int × (List UInt8 × Unit))) ++ ([(updH 1 (([[10], [20], [30]] : List (List UInt8)).getD 1 []) ([rowL (mkN 3 1 ([5, 6, 7])) (mkC 3 1 ([5, 6, 7])) 1] : List (List (List UInt8))), updS 1 (([[10], [20], [30]] : List (List UInt8)).getD 1 []) ([rowL (mkN 3 1 ([5, 6, 7])) (mkC 3 1 ([5, 6, 7])) 1] : List (List (List UInt8))), ())] : List (Int × (List UInt8 × Unit)))) ++ ([(updH 2 (([[10], [20], [30]] : List (List UInt8)).getD 2 []) ([rowL (mkN 3 1 ([5, 6, 7])) (mkC 3 1 ([5, 6, 7])) 2] : List (List (List UInt8))), updS 2 (([[10], [20], [30]] : List (List UInt8)).getD 2 []) ([rowL (mkN 3 1 ([5, 6, 7])) (mkC 3 1 ([5, 6, 7])) 2] : List (List (List UInt8))), ())] : List (Int × (List UInt8 × Unit)))).getD 2 (0, ([], ()))).2).1) = ([15]); decide +kernel⟩), rfl⟩
def CSan : List (Nat × Con) := (11, pureC [] sSan) :: CSec
theorem kSan : Known Tryd.prog (En CSan tys G6 QPrs) := Known.frz0 <| (kSec.frz [1000001, 1000002]).add Tryd.func11 Tryd.call11 [.k] fun ds p v bs h hp => by
  unfold sSan at h
  split at h <;> simp only [Option.some.injEq, Prod.mk.injEq, reduceCtorEq] at h
  obtain ⟨rfl, rfl, rfl⟩ := h
  exact bSan 
end Go.Proofs.YtmkphnlpbngenaaDoor.S27

namespace Go.Proofs.YtmkphnlpbngenaaDoor.S27
open Go

/-! ### bounds -/
theorem dlt_mx {nd : Int} {cf : List Rw} {s : Int} (h : Deal nd cf) : ∀ l ∈ dltK cf s 12, l.length ≤ 1048576 ∧ ∀ x ∈ l, x.length ≤ 1048576 := fun l hl => by
  obtain ⟨k, hk, rfl⟩ := getD_mem' (d := []) hl
  have h3 := h.len
  have h4 := h.n12
  have h5 := h.max
  rw [dlt_get]
  split
  · rw [rowD_len]
    exact ⟨by omega, fun x hx => by rw [row_len h _ x hx]; omega⟩
  · exact ⟨by simp, fun x hx => by simp at hx⟩
theorem rflL_len (rows : List Rw) (h : Int) : (rflL rows h).length ≤ 11 := by
  unfold rflL
  split
  · rename_i e
    have hc : cmpE rows = 0 := by
      unfold rflE at e
      split at e
      · assumption
      · rename_i g; exact absurd e g
    rw [rflO, outS_len]
    exact last_11 (cmp0 hc).2.1 _
  · simp
theorem rflL_le (rows : List Rw) (h : Int) : ∀ s ∈ rflL rows h, s.length ≤ 1048576 := fun s hs => by
  unfold rflL at hs
  split at hs
  · rename_i e
    have hc : cmpE rows = 0 := by
      unfold rflE at e
      split at e
      · assumption
      · rename_i g; exact absurd e g
    have := outS_le (ps := (ptsK rows rows.length).take (lastK rows rows.length)) (vs := vlsK rows h rows.length) (m := lastK rows rows.length) (N := 4096) (vls_le (cmp0 hc).2.1 (Nat.le_refl _)) _ s hs
    omega
  · simp at hs
theorem allR_mx (rows : List Rw) (k : Nat) : ∀ l ∈ allR rows k, l.length ≤ 1048576 ∧ ∀ x ∈ l, x.length ≤ 1048576 := fun l hl => by
  obtain ⟨h, _, rfl⟩ := List.mem_map.1 hl
  split
  · exact ⟨Nat.le_trans (rflL_len _ _) (by omega), rflL_le _ _⟩
  · exact ⟨by simp, fun x hx => by simp at hx⟩
theorem rfl0_cases {rows : List Rw} (h0 : cmpE rows = 0) (hl : cmpL rows = []) : rflE rows 0 = 0 ∨ rflE rows 0 = 17 := by
  rw [rflE_cases h0 hl ⟨by omega, by omega⟩]
  split
  · exact .inr rfl
  · exact .inl rfl
end Go.Proofs.YtmkphnlpbngenaaDoor.S27

namespace Go.Proofs.YtmkphnlpbngenaaDoor.S27
open Go

/-! ### RenewSeparates -/
def btC (f t : List (List UInt8)) (a b k : Nat) : UInt8 := if a = 0 ∨ b = 0 then co (sumL [f.getD k [], t.getD k []]) (a + b + 1) else 0
def btS (f t : List (List UInt8)) (a b n : Nat) : List UInt8 := (List.range n).map (btC f t a b)
def btR (f t : List (List UInt8)) (N a m : Nat) : Rw := (List.range m).map fun b => btS f t a b N
def btL (f t : List (List UInt8)) (N m n : Nat) : List Rw := (List.range n).map fun a => btR f t N a m
theorem btS_len (f t : List (List UInt8)) (a b n : Nat) : (btS f t a b n).length = n := by simp [btS]
theorem btR_len (f t : List (List UInt8)) (N a m : Nat) : (btR f t N a m).length = m := by simp [btR]
theorem btL_len (f t : List (List UInt8)) (N m n : Nat) : (btL f t N m n).length = n := by simp [btL]
theorem btS_snoc {f t : List (List UInt8)} {a b k : Nat} {x : UInt8} (h : x = btC f t a b k) : btS f t a b (k + 1) = btS f t a b k ++ [x] := by unfold btS; rw [List.range_succ, List.map_append, h]; rfl
theorem btR_snoc (f t : List (List UInt8)) (N a b : Nat) : btR f t N a (b + 1) = btR f t N a b ++ [btS f t a b N] := by unfold btR; rw [List.range_succ, List.map_append]; rfl
theorem btL_snoc (f t : List (List UInt8)) (N m a : Nat) : btL f t N m (a + 1) = btL f t N m a ++ [btR f t N a m] := by unfold btL; rw [List.range_succ, List.map_append]; rfl
theorem co_app (p : List UInt8) (n i : Nat) : (p ++ List.replicate n 0).getD i 0 = co p i := by
  unfold co
  rw [List.getD_eq_getElem?_getD, List.getD_eq_getElem?_getD, List.getElem?_append]
  split
  · rfl
  · rename_i h
    rw [List.getElem?_eq_none (by omega : p.length ≤ i), List.getElem?_replicate]
    split <;> rfl
theorem btC_yes {f t : List (List UInt8)} {a b k n i : Nat} (h : a = 0 ∨ b = 0) (hi : i = a + b + 1) : (sumL [f.getD k [], t.getD k []] ++ List.replicate n 0).getD i 0 = btC f t a b k := by
  rw [co_app, hi, btC, if_pos h]
theorem btC_no {f t : List (List UInt8)} {a b k : Nat} (h : ¬ (a = 0 ∨ b = 0)) : 0 = btC f t a b k := by rw [btC, if_neg h]
section
variable {f t : List (List UInt8)} {N m : Nat}
theorem bt_row {a : Nat} (ha : a < m) : (btL f t N m m).getD a [] = btR f t N a m := by simp [btL, List.getD_eq_getElem?_getD, ha]
theorem bt_str {a b : Nat} (ha : a < m) (hb : b < m) : ((btL f t N m m).getD a []).getD b [] = btS f t a b N := by
  rw [bt_row ha]; simp [btR, List.getD_eq_getElem?_getD, hb]
theorem bt_mem {l : Rw} (h : l ∈ btL f t N m m) : l.length = m ∧ ∀ s ∈ l, s.length = N := by
  obtain ⟨a, _, rfl⟩ := List.mem_map.1 h
  refine ⟨btR_len _ _ _ _ _, fun s hs => ?_⟩
  obtain ⟨b, _, rfl⟩ := List.mem_map.1 hs
  exact btS_len _ _ _ _ _
theorem bt_n00 (hm : 1 ≤ m) : n00 (btL f t N m m) = N := by
  unfold n00 n0
  rw [bt_str (by omega) (by omega)]; exact btS_len _ _ _ _ _
theorem bt_sym (a b : Nat) : btS f t a b N = btS f t b a N := by
  unfold btS
  apply List.map_congr_left
  intro k _
  unfold btC
  by_cases h : a = 0 ∨ b = 0
  · rw [if_pos h, if_pos h.symm, Nat.add_comm a b]
  · rw [if_neg h, if_neg fun g => h g.symm]
theorem bt_chk {nd : Int} (hn : 2 ≤ nd) (hn2 : nd ≤ 12) (hm : (m : Int) = nd - 1) (hN : N ≤ 8) : chkD nd (btL f t N m m) = 0 := by
  unfold chkD
  have h0 := bt_n00 (f := f) (t := t) (N := N) (m := m) (by omega)
  rw [if_neg (by omega), if_neg (by rw [btL_len]; omega), if_neg, if_neg (by rw [h0]; omega), if_neg]
  · rw [Bool.not_eq_false, btL_len]
    unfold symB
    rw [List.all_eq_true]
    intro a ha
    rw [List.all_eq_true]
    intro b hb
    rw [List.mem_range] at ha hb
    rw [decide_eq_true_eq, bt_str ha (by omega), bt_str (by omega) ha]
    exact bt_sym a b
  · rw [Bool.not_eq_false, List.all_eq_true]
    intro l hl
    obtain ⟨h1, h2⟩ := bt_mem hl
    refine lenB_yes (by rw [btL_len]; exact h1) (by rw [bt_row (by omega), btL_len]; exact btR_len _ _ _ _ _) ?_
    rw [List.all_eq_true]
    intro s hs
    rw [h2 s hs, h0]; exact decide_eq_true rfl
theorem bt_c0 (hm : 1 ≤ m) {nd : Int} {k : Nat} (hk : k < N) (i : Nat) : co (c0 ((nd, btL f t N m m, ()) : Dl) k) i = if i < m then co (sumL [f.getD k [], t.getD k []]) (i + 1) else 0 := by
  unfold c0
  rw [co_col]
  show (((btL f t N m m).getD 0 []).getD i []).getD k 0 = _
  rcases Nat.lt_or_ge i m with h | h
  · rw [bt_str (by omega) h, if_pos h]
    simp [btS, List.getD_eq_getElem?_getD, hk, btC]
  · rw [bt_row (by omega), if_neg (by omega)]
    have : (btR f t N 0 m).getD i [] = [] := by simp [List.getD_eq_getElem?_getD, List.getElem?_eq_none (by rw [btR_len]; omega : (btR f t N 0 m).length ≤ i)]
    rw [this]; rfl
theorem co_xorL : ∀ (a b : List UInt8) (i : Nat), co (xorL a b) i = co a i ^^^ co b i := co_xor
/-- The deal leads from the ones to the others. -/
theorem bt_leads {nd : Int} (hm : (m : Int) = nd - 1) (hn : 2 ≤ nd) {k : Nat} (hk : k < N) (hf : ((f.getD k []).length : Int) ≤ nd) (ht : ((t.getD k []).length : Int) ≤ nd) (h0 : horner 0 (f.getD k []) = horner 0 (t.getD k [])) (x : UInt8) :
    horner x (rnQ [((nd, btL f t N m m, ()) : Dl)] k (f.getD k [])) = horner x (t.getD k []) := by
  refine horner_ext x fun i => ?_
  show co (xorL (f.getD k []) (0 :: c0 _ k)) i = _
  rw [co_xorL]
  cases i with
  | zero =>
    rw [co_zero]
    rw [horner_zero, horner_zero] at h0
    rw [h0]; simp
  | succ i =>
    rw [co_succ, bt_c0 (by omega) hk, co_sum]
    split
    · rw [← UInt8.xor_assoc, UInt8.xor_self, UInt8.zero_xor]
    · rw [co_ge _ _ (by omega), co_ge (t.getD k []) _ (by omega)]; rfl
end
theorem sep {nd s1 s2 : Int} {b a : List (List UInt8)} {sec : List UInt8} {one two : List (List UInt8)} {m : Nat} (hn : 2 ≤ nd) (hn2 : nd ≤ 12) (hm : (m : Int) = nd - 1) (hl : b.length ≤ 8) (hab : a.length = b.length)
    (A1 : AlsoOk nd b s1 sec one) (A2 : AlsoOk nd a s2 sec two) :
    chkD nd (btL one two b.length m m) = 0 ∧ RnOk b.length (shK one 12) [(nd, btL one two b.length m m, ())] ∧ rnK (shK one 12) [(nd, btL one two b.length m m, ())] 12 = shK two 12 ∧
    (∀ h : Nat, h < 12 → bitP s1 h → (shK one 12).getD h (0, [], ()) = (shK b 12).getD h (0, [], ())) ∧ (∀ h : Nat, h < 12 → bitP s2 h → (shK two 12).getD h (0, [], ()) = (shK a 12).getD h (0, [], ())) ∧
    SecOk (shK two 12) nd ∧ secK (shK two 12) nd (sN (shK two 12)) = sec := by
  have hc := bt_chk (f := one) (t := two) (N := b.length) (m := m) hn hn2 hm hl
  have h00 := bt_n00 (f := one) (t := two) (N := b.length) (m := m) (by omega)
  have l1 := A1.len
  have l2 := A2.len
  have F : FitOk nd [((nd, btL one two b.length m m, ()) : Dl)] one := by
    refine ⟨hn, hn2, by simp, by omega, fun d hd => ?_, A1.pl⟩
    rw [List.mem_singleton] at hd
    subst hd
    exact ⟨rfl, hc, by rw [l1]; exact h00⟩
  have hr := rn_shares (l' := one) F rfl
  have hp0 : ∀ k, k < b.length → horner 0 (one.getD k []) = horner 0 (two.getD k []) := fun k hk => by
    have e : one.map (horner 0) = two.map (horner 0) := by rw [A1.sec, A2.sec]
    have := congrArg (fun l => l.getD k 0) e
    simpa [List.getD_eq_getElem?_getD, l1, l2, hab, hk] using this
  have hs : rnK (shK one 12) [((nd, btL one two b.length m m, ()) : Dl)] 12 = shK two 12 := by
    rw [hr]
    unfold shK
    apply List.map_congr_left
    intro h hh
    have : shB (rnL one [((nd, btL one two b.length m m, ()) : Dl)]) h = shB two h := by
      refine ext_get (N := b.length) (by rw [shB_len, rnL_len, l1]) (by rw [shB_len, l2, hab]) fun k hk => ?_
      rw [sh_get, sh_get, rnL_get (by omega)]
      exact bt_leads hm hn hk (A1.pl _ (getD_mem [] one k (by omega))) (A2.pl _ (getD_mem [] two k (by omega))) (hp0 k hk) _
    rw [this]
  obtain ⟨q1, q2⟩ := sec_ok (l := two) (nd := nd) (by omega) hn2 (by omega) A2.pl
  refine ⟨hc, ?_, hs, fun h hh hb => by rw [shK_get _ hh, shK_get _ hh, A1.same h hh hb], fun h hh hb => by rw [shK_get _ hh, shK_get _ hh, A2.same h hh hb], q1, by rw [q2, A2.sec]⟩
  have := fit_rn (l' := one) F rfl
  rwa [l1] at this
theorem bt_mx {f t : List (List UInt8)} {N m k : Nat} (hN : N ≤ 1000) (hm : m ≤ 1000) : ∀ l ∈ btL f t N m k, l.length ≤ 1048576 ∧ ∀ x ∈ l, x.length ≤ 1048576 := fun l hl => by
  obtain ⟨a, _, rfl⟩ := List.mem_map.1 hl
  refine ⟨by rw [btR_len]; omega, fun s hs => ?_⟩
  obtain ⟨b, _, rfl⟩ := List.mem_map.1 hs
  rw [btS_len]; omega
end Go.Proofs.YtmkphnlpbngenaaDoor.S27

namespace Go.Proofs.YtmkphnlpbngenaaDoor.S27
open Go Go.Proofs.YtmkphnlpbngenaaDoor.Vc Go.Proofs
set_option maxRecDepth 100000
set_option linter.unusedVariables false

def sBtw : List V → Option (Prop × V × List Blk)
  | [.int .i64 nd, .sl false (.sl .u8) f, .sl false (.sl .u8) t] => some (2 ≤ nd ∧ nd ≤ 12 ∧ f.length ≤ 1000 ∧ f.length = t.length ∧ (∀ x ∈ f, x.length ≤ 1000) ∧ (∀ x ∈ t, x.length ≤ 1000), .agg [.int .i64 (nd), .sl true (.sl .str) (btL f t f.length (nd - 1).toNat (nd - 1).toNat)], [])
  | _ => none
set_option maxHeartbeats 4000000 in
theorem bBtw (nd : Int) (f : List (List UInt8)) (t : List (List UInt8)) (hp0 : 2 ≤ nd) (hp1 : nd ≤ 12) (hp2 : f.length ≤ 1000) (hp3 : f.length = t.length) (hp4 : (∀ x ∈ f, x.length ≤ 1000)) (hp5 : (∀ x ∈ t, x.length ≤ 1000)) : bodyP (En CSan tys G6 QPrs [1000002]) Tryd.f40 [.k, .d (.sl .str)] [.int .i64 nd, .sl false (.sl .u8) f, .sl false (.sl .u8) t] (.agg [.int .i64 (nd), .sl true (.sl .str) (btL f t f.length (nd - 1).toNat (nd - 1).toNat)]) [] := by
  obtain ⟨m, hm⟩ : ∃ m : Nat, (nd - 1).toNat = m := ⟨_, rfl⟩
  refine ⟨⟨by show (-9223372036854775808 : Int) ≤ (nd - 1); omega, by show (nd - 1) ≤ (9223372036854775807 : Int); omega⟩, ⟨rfl, rfl, rfl, Nat.le_of_ble_eq_true rfl⟩, 3, [(0, .k), (1, .k), (2, .k), (6, .k), (7, .k), (8, .c [(1, (.sl .str))]), (9, .k)], fun n vs H => ∃ (a : Nat), a ≤ (nd - 1).toNat ∧ n = (nd - 1).toNat - a ∧ vs = [.int .i64 nd, .sl false (.sl .u8) f, .sl false (.sl .u8) t, .ptr 0 1 0 0, .int .i64 (nd - 1), .ptr 1 1 0 0, .int .i64 (a : Int)] ∧ H = [.cells [.int .i64 0, .nils], .cells [.int .i64 nd, .own (.sl .str) 2], .row true (.sl .str) (btL f t f.length (nd - 1).toNat a)], ⟨rfl, (nd - 1).toNat, 0, by omega, by omega, rfl, rfl⟩, ?_⟩
  rintro n vs H ⟨a, hc1_0, rfl, rfl, rfl⟩
  have hbl := btL_len f t f.length (nd - 1).toNat a
  refine ⟨fun h0 => ?_, fun h0 => ?_⟩
  · replace h0 : (a : Int) < (nd - 1) := h0
    refine ⟨3, [(0, .k), (1, .k), (2, .k), (6, .k), (7, .k), (8, .k), (9, .k), (10, .o .str), (11, .k)], fun n vs H => ∃ (b : Nat), b ≤ (nd - 1).toNat ∧ n = (nd - 1).toNat - b ∧ vs = [.int .i64 nd, .sl false (.sl .u8) f, .sl false (.sl .u8) t, .ptr 0 1 0 0, .int .i64 (nd - 1), .ptr 1 1 0 0, .int .i64 (a : Int), .own .str 3, .int .i64 (b : Int)] ∧ H = [.cells [.int .i64 0, .nils], .cells [.int .i64 nd, .own (.sl .str) 2], .row true (.sl .str) (btL f t f.length (nd - 1).toNat a), .row true .str (btR f t f.length a b)], ⟨rfl, (nd - 1).toNat, 0, by omega, by omega, rfl, rfl⟩, ?_⟩
    rintro n vs H ⟨b, hc2_0, rfl, rfl, rfl⟩
    have hbr := btR_len f t f.length a b
    refine ⟨fun h1 => ?_, fun h1 => ?_⟩
    · replace h1 : (b : Int) < (nd - 1) := h1
      refine ⟨4, [(0, .k), (1, .k), (2, .k), (6, .k), (7, .k), (8, .k), (9, .k), (10, .k), (11, .k), (12, .o .u8), (13, .k)], fun n vs H => ∃ (k : Nat), k ≤ f.length ∧ n = f.length - k ∧ vs = [.int .i64 nd, .sl false (.sl .u8) f, .sl false (.sl .u8) t, .ptr 0 1 0 0, .int .i64 (nd - 1), .ptr 1 1 0 0, .int .i64 (a : Int), .own .str 3, .int .i64 (b : Int), .own .u8 4, .int .i64 (k : Int)] ∧ H = [.cells [.int .i64 0, .nils], .cells [.int .i64 nd, .own (.sl .str) 2], .row true (.sl .str) (btL f t f.length (nd - 1).toNat a), .row true .str (btR f t f.length a b), .row true .u8 (btS f t a b k)], ⟨rfl, f.length, 0, by omega, by omega, rfl, rfl⟩, ?_⟩
      rintro n vs H ⟨k, hc3_0, rfl, rfl, rfl⟩
      have hbs := btS_len f t a b k
      refine ⟨fun h2 => ?_, fun h2 => ?_⟩
      · replace h2 : (k : Int) < (f.length : Int) := h2
        have hkf : k < f.length := by omega
        have hkt : k < t.length := by omega
        have hfl := hp4 _ (getD_mem [] f k hkf)
        have htl := hp5 _ (getD_mem [] t k hkt)
        have hsl : (sumL [f.getD k [], t.getD k []]).length ≤ 1000 := by rw [sumL_two]; exact Nat.le_trans (trimL_len _) (by rw [xorL_length]; omega)
        refine ⟨by kernel_rfl, ⟨by show (0 : Int) ≤ (k : Int); omega, by show (k : Int) < (f.length : Int); omega⟩, ⟨by show (0 : Int) ≤ (k : Int); omega, by show (k : Int) < (t.length : Int); omega⟩, ⟨by show (f.getD k []).length ≤ 1000000; first | omega | assumption | (simp only [List.length_cons, List.length_nil, List.length_append, List.length_take, List.length_drop, List.length_set, List.length_replicate]; omega), by show (t.getD k []).length ≤ 1000000; first | omega | assumption | (simp only [List.length_cons, List.length_nil, List.length_append, List.length_take, List.length_drop, List.length_set, List.length_replicate]; omega)⟩, ⟨by show (-9223372036854775808 : Int) ≤ (nd + 1); omega, by show (nd + 1) ≤ (9223372036854775807 : Int); omega⟩, ⟨rfl, rfl⟩, ⟨by show (0 : Int) < (nd + 1); omega, by show (sumL [(f.getD k []), (t.getD k [])]).length + (nd + 1).toNat ≤ 1000000000; omega⟩, fun h3 => ?_, fun h3 => ?_⟩
        · replace h3 : ¬ ((a : Int) = 0) := h3
          refine ⟨fun h4 => ?_, fun h4 => ?_⟩
          · replace h4 : (b : Int) = 0 := h4
            refine ⟨⟨by show (-9223372036854775808 : Int) ≤ ((a : Int) + (b : Int)); omega, by show ((a : Int) + (b : Int)) ≤ (9223372036854775807 : Int); omega⟩, ⟨by show (-9223372036854775808 : Int) ≤ (((a : Int) + (b : Int)) + 1); omega, by show (((a : Int) + (b : Int)) + 1) ≤ (9223372036854775807 : Int); omega⟩, ⟨by omega, by show (((a : Int) + (b : Int)) + 1) < (((sumL [(f.getD k []), (t.getD k [])]) ++ List.replicate ((nd + 1).toNat) 0).length : Int); rw [List.length_append, List.length_replicate]; omega⟩, ⟨rfl, rfl⟩, by show (btS f t a b k).length + ([(((sumL [(f.getD k []), (t.getD k [])]) ++ List.replicate ((nd + 1).toNat) 0).getD ((((a : Int) + (b : Int)) + 1).toNat) 0)] : List UInt8).length ≤ 1000000000; simp only [List.length_cons, List.length_nil]; omega, ⟨by show (-9223372036854775808 : Int) ≤ ((k : Int) + 1); omega, by show ((k : Int) + 1) ≤ (9223372036854775807 : Int); omega⟩, ?_⟩
            first
            | exact ⟨rfl, f.length - (k + 1), by omega, k + 1, by omega, rfl, rfl, by rw [btS_snoc (btC_no (f := f) (t := t) (k := k) (show ¬ (a = 0 ∨ b = 0) by omega))]; rfl⟩
            | exact ⟨rfl, f.length - (k + 1), by omega, k + 1, by omega, rfl, rfl, by rw [btS_snoc (btC_yes (f := f) (t := t) (k := k) (n := (nd + 1).toNat) (show a = 0 ∨ b = 0 by omega) (show (((a : Int) + (b : Int)) + 1).toNat = a + b + 1 by omega))]; rfl⟩
          · replace h4 : ¬ ((b : Int) = 0) := h4
            refine ⟨⟨rfl, rfl⟩, by show (btS f t a b k).length + ([0] : List UInt8).length ≤ 1000000000; simp only [List.length_cons, List.length_nil]; omega, ⟨by show (-9223372036854775808 : Int) ≤ ((k : Int) + 1); omega, by show ((k : Int) + 1) ≤ (9223372036854775807 : Int); omega⟩, ?_⟩
            first
            | exact ⟨rfl, f.length - (k + 1), by omega, k + 1, by omega, rfl, rfl, by rw [btS_snoc (btC_no (f := f) (t := t) (k := k) (show ¬ (a = 0 ∨ b = 0) by omega))]; rfl⟩
            | exact ⟨rfl, f.length - (k + 1), by omega, k + 1, by omega, rfl, rfl, by rw [btS_snoc (btC_yes (f := f) (t := t) (k := k) (n := (nd + 1).toNat) (show a = 0 ∨ b = 0 by omega) (show (((a : Int) + (b : Int)) + 1).toNat = a + b + 1 by omega))]; rfl⟩
        · replace h3 : (a : Int) = 0 := h3
          refine ⟨⟨by show (-9223372036854775808 : Int) ≤ ((a : Int) + (b : Int)); omega, by show ((a : Int) + (b : Int)) ≤ (9223372036854775807 : Int); omega⟩, ⟨by show (-9223372036854775808 : Int) ≤ (((a : Int) + (b : Int)) + 1); omega, by show (((a : Int) + (b : Int)) + 1) ≤ (9223372036854775807 : Int); omega⟩, ⟨by omega, by show (((a : Int) + (b : Int)) + 1) < (((sumL [(f.getD k []), (t.getD k [])]) ++ List.replicate ((nd + 1).toNat) 0).length : Int); rw [List.length_append, List.length_replicate]; omega⟩, ⟨rfl, rfl⟩, by show (btS f t a b k).length + ([(((sumL [(f.getD k []), (t.getD k [])]) ++ List.replicate ((nd + 1).toNat) 0).getD ((((a : Int) + (b : Int)) + 1).toNat) 0)] : List UInt8).length ≤ 1000000000; simp only [List.length_cons, List.length_nil]; omega, ⟨by show (-9223372036854775808 : Int) ≤ ((k : Int) + 1); omega, by show ((k : Int) + 1) ≤ (9223372036854775807 : Int); omega⟩, ?_⟩
          first
          | exact ⟨rfl, f.length - (k + 1), by omega, k + 1, by omega, rfl, rfl, by rw [btS_snoc (btC_no (f := f) (t := t) (k := k) (show ¬ (a = 0 ∨ b = 0) by omega))]; rfl⟩
          | exact ⟨rfl, f.length - (k + 1), by omega, k + 1, by omega, rfl, rfl, by rw [btS_snoc (btC_yes (f := f) (t := t) (k := k) (n := (nd + 1).toNat) (show a = 0 ∨ b = 0 by omega) (show (((a : Int) + (b : Int)) + 1).toNat = a + b + 1 by omega))]; rfl⟩
      · replace h2 : ¬ ((k : Int) < (f.length : Int)) := h2
        refine ⟨⟨rfl, rfl⟩, by show (btR f t f.length a b).length + ([btS f t a b k] : List (List UInt8)).length ≤ 1000000000; simp only [List.length_cons, List.length_nil]; omega, ⟨by show (-9223372036854775808 : Int) ≤ ((b : Int) + 1); omega, by show ((b : Int) + 1) ≤ (9223372036854775807 : Int); omega⟩, ?_⟩
        exact ⟨rfl, (nd - 1).toNat - (b + 1), by omega, b + 1, by omega, rfl, rfl, by rw [btR_snoc, show btS f t a b f.length = btS f t a b k by rw [show f.length = k by omega]]; rfl⟩
    · replace h1 : ¬ ((b : Int) < (nd - 1)) := h1
      refine ⟨⟨rfl, rfl⟩, by show (btL f t f.length (nd - 1).toNat a).length + ([btR f t f.length a b] : List (List (List UInt8))).length ≤ 1000000000; simp only [List.length_cons, List.length_nil]; omega, ⟨rfl, rfl, rfl⟩, ⟨by show (-9223372036854775808 : Int) ≤ ((a : Int) + 1); omega, by show ((a : Int) + 1) ≤ (9223372036854775807 : Int); omega⟩, ?_⟩
      exact ⟨rfl, (nd - 1).toNat - (a + 1), by omega, a + 1, by omega, rfl, rfl, by rw [btL_snoc, show btR f t f.length a (nd - 1).toNat = btR f t f.length a b by rw [show (nd - 1).toNat = b by omega]]; rfl⟩
  · replace h0 : ¬ ((a : Int) < (nd - 1)) := h0
    refine ⟨⟨rfl, rfl, rfl, Nat.le_of_ble_eq_true rfl⟩, ?_⟩
    rw [show a = (nd - 1).toNat by omega]
    exact ⟨rfl, rfl, rfl, rfl⟩
def CBtw : List (Nat × Con) := (40, pureC [.v (.int .i64), .v (.sl (.sl .u8)), .v (.sl (.sl .u8))] sBtw) :: CSan
theorem kBtw : Known Tryd.prog (En CBtw tys G6 QPrs) := Known.frz0 <| (kSan.frz [1000002]).add Tryd.func40 Tryd.call40 [.k, .d (.sl .str)] fun ds p v bs h hp => by
  unfold sBtw at h
  split at h <;> simp only [Option.some.injEq, Prod.mk.injEq, reduceCtorEq] at h
  obtain ⟨rfl, rfl, rfl⟩ := h
  exact bBtw _ _ _ hp.1 hp.2.1 hp.2.2.1 hp.2.2.2.1 hp.2.2.2.2.1 hp.2.2.2.2.2
end Go.Proofs.YtmkphnlpbngenaaDoor.S27

namespace Go.Proofs.YtmkphnlpbngenaaDoor.S27
open Go Go.Proofs.YtmkphnlpbngenaaDoor.Vc Go.Proofs
set_option maxRecDepth 100000
set_option linter.unusedVariables false

end Go.Proofs.YtmkphnlpbngenaaDoor.S27

namespace Go.Proofs.YtmkphnlpbngenaaDoor.S27
open Go Go.Proofs.YtmkphnlpbngenaaDoor.Vc Go.Proofs
set_option maxRecDepth 100000
set_option linter.unusedVariables false

theorem bRmulQ {l : List (Nat × Con)} {q : List (Nat × SeqC)} (a b : UInt8) : bodyP (En l tys G6 q) Tryd.f69 [.k] [.u8 a, .u8 b] (.u8 (rmulL a b)) [] := by
  have hat := a.toNat_lt
  have hbt := b.toNat_lt
  refine ⟨0, [(5, .k), (6, .k), (7, .k)], fun f vs H => ∃ x y s : Int, 0 ≤ x ∧ x < 256 ∧ 0 ≤ y ∧ y < 2 ^ f ∧ y < 256 ∧ 0 ≤ s ∧ s < 256 ∧ rmF f x y s = rmF 8 a.toNat b.toNat 0 ∧ vs = [.int .i64 x, .int .i64 y, .int .i64 s] ∧ H = [], ⟨rfl, 8, a.toNat, b.toNat, 0, by omega, by omega, by omega, by omega, by omega, by omega, by omega, rfl, rfl, rfl⟩, ?_⟩
  rintro f vs H ⟨x, y, s, hx0, hx, hy0, hyf, hy, hs0, hs, he, rfl, rfl⟩
  refine ⟨fun hn => ?_, fun hn => ?_⟩
  · cases f with
    | zero => exact absurd hyf (by omega)
    | succ f =>
    have hb : y / 2 < 2 ^ f := by rw [Int.pow_succ] at hyf; omega
    rw [show rmF (f + 1) x y s = _ from if_pos hn] at he
    have hd : (2 * x).toNat = 2 * x.toNat := by omega
    have hx' : 255 < 2 * x → (0 : Int) ≤ (((2 * x).toNat ^^^ 285 : Nat) : Int) ∧ (((2 * x).toNat ^^^ 285 : Nat) : Int) < 256 := fun h => by
      have := xor285 x.toNat (by omega) (by omega)
      rw [hd]
      omega
    have hs' : (0 : Int) ≤ ((s.toNat ^^^ x.toNat : Nat) : Int) ∧ ((s.toNat ^^^ x.toNat : Nat) : Int) < 256 := by
      have : s.toNat ^^^ x.toNat < 2 ^ 8 := Nat.xor_lt_two_pow (by omega) (by omega)
      omega
    have hy2 : 0 ≤ y / 2 := Int.ediv_nonneg hy0 (by omega)
    refine .inl ⟨⟨hy0, by omega⟩, ⟨?_, ?_⟩⟩
    · intro h1
      replace h1 : y % 2 = 1 := h1
      rw [if_pos h1] at he
      refine ⟨⟨hs0, hx0⟩, .inl ⟨⟨hy0, by omega⟩, ⟨⟨by omega, by omega⟩, fun h2 => ?_, fun h2 => ?_⟩⟩⟩
      · rw [if_pos h2] at he
        exact ⟨⟨by omega, by omega⟩, rfl, f, by omega, _, _, _, (hx' h2).1, (hx' h2).2, hy2, hb, by omega, hs'.1, hs'.2, he, rfl, rfl⟩
      · rw [if_neg h2] at he
        exact ⟨rfl, f, by omega, _, _, _, by omega, by omega, hy2, hb, by omega, hs'.1, hs'.2, he, rfl, rfl⟩
    · intro h1
      replace h1 : ¬ y % 2 = 1 := h1
      rw [if_neg h1] at he
      refine .inl ⟨⟨hy0, by omega⟩, ⟨⟨by omega, by omega⟩, fun h2 => ?_, fun h2 => ?_⟩⟩
      · rw [if_pos h2] at he
        exact ⟨⟨by omega, by omega⟩, rfl, f, by omega, _, _, _, (hx' h2).1, (hx' h2).2, hy2, hb, by omega, hs0, hs, he, rfl, rfl⟩
      · rw [if_neg h2] at he
        exact ⟨rfl, f, by omega, _, _, _, by omega, by omega, hy2, hb, by omega, hs0, hs, he, rfl, rfl⟩
  · have : y = 0 := by omega
    subst this
    have : rmF f x 0 s = s := by cases f <;> rfl
    rw [this] at he
    unfold rmulL
    rw [← he]
    exact ⟨rfl, rfl, rfl, rfl⟩

def sRMul : List V → Option (Prop × V × List Blk)
  | [.u8 a, .u8 b] => some (True, .u8 (mulL a b), [])
  | _ => none
set_option maxHeartbeats 1000000 in
theorem bRMul (a : UInt8) (b : UInt8)  : bodyP (En CBtw tys G6 QPrs) Tryd.f69 [.k] [.u8 a, .u8 b] (.u8 (mulL a b)) [] := by
  rw [← mul_same]
  exact bRmulQ a b
def CRMul : List (Nat × Con) := (69, pureC [.v .u8, .v .u8] sRMul) :: CBtw
theorem kRMul : Known Tryd.prog (En CRMul tys G6 QPrs) := kBtw.add Tryd.func69 Tryd.call69 [.k] fun ds p v bs h hp => by
  unfold sRMul at h
  split at h <;> simp only [Option.some.injEq, Prod.mk.injEq, reduceCtorEq] at h
  obtain ⟨rfl, rfl, rfl⟩ := h
  exact bRMul _ _
def rinvM (a : UInt8) : Nat → Nat → UInt8
  | 0, _ => 0
  | f + 1, b => if mulL a (UInt8.ofNat b) = 1 then UInt8.ofNat b else rinvM a f (b + 1)
theorem rinvM_same (a : UInt8) : ∀ f b, rinvM a f b = rinvF a f b
  | 0, b => rfl
  | f + 1, b => by unfold rinvM rinvF; rw [mul_same, rinvM_same a f]
theorem rinvM_ok (a : UInt8) : rinvM a 255 1 = invL a := by rw [rinvM_same]; exact inv_same a
def sRInv : List V → Option (Prop × V × List Blk)
  | [.u8 a] => some (True, .u8 (invL a), [])
  | _ => none
set_option maxHeartbeats 1000000 in
theorem bRInv (a : UInt8)  : bodyP (En CRMul tys G6 QPrs) Tryd.f67 [.k] [.u8 a] (.u8 (invL a)) [] := by
  refine ⟨0, [(0, .k), (3, .k)], fun n vs H => ∃ (b : Nat), 1 ≤ b ∧ b ≤ 256 ∧ rinvM a (256 - b) b = invL a ∧ n = 256 - b ∧ vs = [.u8 a, .int .i64 (b : Int)] ∧ H = [], ⟨rfl, 255, 1, by omega, by omega, rinvM_ok a, by omega, rfl, rfl⟩, ?_⟩
  rintro n vs H ⟨b, hc1_0, hc1_1, hc1_2, rfl, rfl, rfl⟩
  refine ⟨fun h0 => ?_, fun h0 => ?_⟩
  · replace h0 : (b : Int) < 256 := h0
    have hm : ((b : Int) % 256).toNat = b := by omega
    rw [show 256 - b = (255 - b) + 1 by omega, rinvM] at hc1_2
    refine ⟨trivial, fun h1 => ?_, fun h1 => ?_⟩
    · replace h1 : (mulL a (UInt8.ofNat ((b : Int) % 256).toNat)) = 1 := h1
      rw [hm] at h1
      rw [if_pos h1] at hc1_2
      refine ⟨rfl, rfl, ?_, rfl⟩
      show V.u8 (UInt8.ofNat ((b : Int) % 256).toNat) = .u8 (invL a)
      rw [hm, hc1_2]
    · replace h1 : ¬ ((mulL a (UInt8.ofNat ((b : Int) % 256).toNat)) = 1) := h1
      rw [hm] at h1
      refine ⟨⟨by show (-9223372036854775808 : Int) ≤ ((b : Int) + 1); omega, by show ((b : Int) + 1) ≤ (9223372036854775807 : Int); omega⟩, ?_⟩
      rw [if_neg h1] at hc1_2
      exact ⟨rfl, 256 - (b + 1), by omega, b + 1, by omega, by omega, by rw [← hc1_2]; congr 1; omega, rfl, rfl, rfl⟩
  · replace h0 : ¬ ((b : Int) < 256) := h0
    have hb : b = 256 := by omega
    subst hb
    rw [← hc1_2]
    exact ⟨rfl, rfl, rfl, rfl⟩
def CRInv : List (Nat × Con) := (67, pureC [.v .u8] sRInv) :: CRMul
theorem kRInv : Known Tryd.prog (En CRInv tys G6 QPrs) := kRMul.add Tryd.func67 Tryd.call67 [.k] fun ds p v bs h hp => by
  unfold sRInv at h
  split at h <;> simp only [Option.some.injEq, Prod.mk.injEq, reduceCtorEq] at h
  obtain ⟨rfl, rfl, rfl⟩ := h
  exact bRInv _
def rEvA (x : UInt8) : List UInt8 → UInt8 → UInt8 → UInt8
  | [], _, s => s
  | c :: p, w, s => rEvA x p (mulL w x) (s ^^^ mulL c w)
theorem rEvA_ok (x : UInt8) : ∀ (p : List UInt8) (w s : UInt8), rEvA x p w s = s ^^^ mulL w (horner x p)
  | [], w, s => by simp [rEvA, horner, mul_zero']
  | c :: p, w, s => by
    rw [rEvA, rEvA_ok x p, horner, mulL_addr, mul_comm' c w, mul_comm' (horner x p) x, ← mul_assoc']
    ac_rfl
theorem reval_ok (x : UInt8) (p : List UInt8) : rEvA x p 1 0 = horner x p := by rw [rEvA_ok, one_mul']; simp
def sREval : List V → Option (Prop × V × List Blk)
  | [.sl false .u8 p, .u8 x] => some (p.length ≤ 1000000, .u8 (horner x p), [])
  | _ => none
set_option maxHeartbeats 1000000 in
theorem bREval (p : List UInt8) (x : UInt8) (hp0 : p.length ≤ 1000000) : bodyP (En CRInv tys G6 QPrs) Tryd.f60 [.k] [.sl false .u8 p, .u8 x] (.u8 (horner x p)) [] := by
  refine ⟨0, [(0, .k), (1, .k), (5, .k), (6, .k), (7, .k)], fun n vs H => ∃ (k : Nat) (s w : UInt8), k ≤ p.length ∧ rEvA x (p.drop k) w s = horner x p ∧ n = p.length - k ∧ vs = [.sl false .u8 p, .u8 x, .u8 s, .u8 w, .int .i64 (k : Int)] ∧ H = [], ⟨rfl, p.length, 0, 0, 1, by omega, reval_ok x p, by omega, rfl, rfl⟩, ?_⟩
  rintro n vs H ⟨k, s, w, hc1_0, hc1_1, rfl, rfl, rfl⟩
  refine ⟨fun h0 => ?_, fun h0 => ?_⟩
  · replace h0 : (k : Int) < (p.length : Int) := h0
    refine ⟨⟨by show (0 : Int) ≤ (k : Int); omega, by show (k : Int) < (p.length : Int); omega⟩, trivial, trivial, ⟨by show (-9223372036854775808 : Int) ≤ ((k : Int) + 1); omega, by show ((k : Int) + 1) ≤ (9223372036854775807 : Int); omega⟩, ?_⟩
    rw [drop_one p k (by omega), rEvA] at hc1_1
    exact ⟨rfl, p.length - (k + 1), by omega, k + 1, _, _, by omega, hc1_1, rfl, rfl, rfl⟩
  · replace h0 : ¬ ((k : Int) < (p.length : Int)) := h0
    have hk : k = p.length := by omega
    rw [hk, List.drop_length, rEvA] at hc1_1
    rw [hc1_1]
    exact ⟨rfl, rfl, rfl, rfl⟩
def CREval : List (Nat × Con) := (60, pureC [.v (.sl .u8), .v .u8] sREval) :: CRInv
theorem kREval : Known Tryd.prog (En CREval tys G6 QPrs) := kRInv.add Tryd.func60 Tryd.call60 [.k] fun ds p v bs h hp => by
  unfold sREval at h
  split at h <;> simp only [Option.some.injEq, Prod.mk.injEq, reduceCtorEq] at h
  obtain ⟨rfl, rfl, rfl⟩ := h
  exact bREval _ _ hp
def sRDeg : List V → Option (Prop × V × List Blk)
  | [.sl false .u8 p] => some (p.length ≤ 1000000, .int .i64 (degL p), [])
  | _ => none
set_option maxHeartbeats 1000000 in
theorem bRDeg (p : List UInt8) (hp0 : p.length ≤ 1000000) : bodyP (En CREval tys G6 QPrs) Tryd.f85 [.k] [.sl false .u8 p] (.int .i64 (degL p)) [] := by
  refine ⟨0, [(0, .k), (3, .k), (4, .k)], fun n vs H => ∃ (k : Nat), k ≤ p.length ∧ n = p.length - k ∧ vs = [.sl false .u8 p, .int .i64 (degL (p.take k)), .int .i64 (k : Int)] ∧ H = [], ⟨rfl, p.length, 0, by omega, by omega, rfl, rfl⟩, ?_⟩
  rintro n vs H ⟨k, hc1_0, rfl, rfl, rfl⟩
  refine ⟨fun h0 => ?_, fun h0 => ?_⟩
  · replace h0 : (k : Int) < (p.length : Int) := h0
    refine ⟨⟨by show (0 : Int) ≤ (k : Int); omega, by show (k : Int) < (p.length : Int); omega⟩, fun h1 => ?_, fun h1 => ?_⟩
    · replace h1 : (p.getD k 0) ≠ 0 := h1
      refine ⟨⟨by show (-9223372036854775808 : Int) ≤ ((k : Int) + 1); omega, by show ((k : Int) + 1) ≤ (9223372036854775807 : Int); omega⟩, ?_⟩
      have e : degL (p.take (k + 1)) = _ := congrArg (fun l : List UInt8 => (l.length : Int) - 1) (by rw [take_snoc p k (by omega), trimL_snoc])
      refine ⟨rfl, p.length - (k + 1), by omega, k + 1, by omega, rfl, ?_, rfl⟩
      rw [e]
      first | rw [if_pos (Classical.not_not.1 h1)] | (rw [if_neg h1]; simp only [List.length_append, List.length_take, List.length_cons, List.length_nil, Nat.min_eq_left hc1_0]; rw [show ((k + (0 + 1) : Nat) : Int) - 1 = k by omega])
      rfl
    · replace h1 : ¬ ((p.getD k 0) ≠ 0) := h1
      refine ⟨⟨by show (-9223372036854775808 : Int) ≤ ((k : Int) + 1); omega, by show ((k : Int) + 1) ≤ (9223372036854775807 : Int); omega⟩, ?_⟩
      have e : degL (p.take (k + 1)) = _ := congrArg (fun l : List UInt8 => (l.length : Int) - 1) (by rw [take_snoc p k (by omega), trimL_snoc])
      refine ⟨rfl, p.length - (k + 1), by omega, k + 1, by omega, rfl, ?_, rfl⟩
      rw [e]
      first | rw [if_pos (Classical.not_not.1 h1)] | (rw [if_neg h1]; simp only [List.length_append, List.length_take, List.length_cons, List.length_nil, Nat.min_eq_left hc1_0]; rw [show ((k + (0 + 1) : Nat) : Int) - 1 = k by omega])
      rfl
  · replace h0 : ¬ ((k : Int) < (p.length : Int)) := h0
    have hk : k = p.length := by omega
    rw [hk, List.take_length]
    exact ⟨rfl, rfl, rfl, rfl⟩
def CRDeg : List (Nat × Con) := (85, pureC [.v (.sl .u8)] sRDeg) :: CREval
theorem kRDeg : Known Tryd.prog (En CRDeg tys G6 QPrs) := kREval.add Tryd.func85 Tryd.call85 [.k] fun ds p v bs h hp => by
  unfold sRDeg at h
  split at h <;> simp only [Option.some.injEq, Prod.mk.injEq, reduceCtorEq] at h
  obtain ⟨rfl, rfl, rfl⟩ := h
  exact bRDeg _ hp
def sRTrim : List V → Option (Prop × V × List Blk)
  | [.sl false .u8 p] => some (p.length ≤ 1000000, .own .u8 0, [.row true .u8 (trimL p)])
  | _ => none
set_option maxHeartbeats 1000000 in
theorem bRTrim (p : List UInt8) (hp0 : p.length ≤ 1000000) : bodyP (En CRDeg tys G6 QPrs) Tryd.f82 [.o .u8] [.sl false .u8 p] (.own .u8 0) [.row true .u8 (trimL p)] := by
  have h1 := trimL_len p
  have h2 : degL p = (trimL p).length - 1 := rfl
  refine ⟨by show p.length ≤ 1000000; first | omega | assumption, 0, [(0, .k), (3, .o .u8), (4, .k), (5, .k)], fun n vs H => ∃ (k : Nat), k ≤ (trimL p).length ∧ n = (trimL p).length - k ∧ vs = [.sl false .u8 p, .own .u8 0, .int .i64 (degL p), .int .i64 (k : Int)] ∧ H = [.row true .u8 (p.take k)], ⟨rfl, (trimL p).length, 0, by omega, by omega, rfl, rfl⟩, ?_⟩
  rintro n vs H ⟨k, hc1_0, rfl, rfl, rfl⟩
  have hl : (p.take k).length = k := by rw [List.length_take]; omega
  refine ⟨fun h0 => ?_, fun h0 => ?_⟩
  · replace h0 : (k : Int) ≤ (degL p) := h0
    refine ⟨⟨by show (0 : Int) ≤ (k : Int); omega, by show (k : Int) < (p.length : Int); omega⟩, ⟨rfl, rfl⟩, by show (p.take k).length + ([p.getD k 0] : List UInt8).length ≤ 1000000000; simp only [List.length_cons, List.length_nil]; omega, ⟨by show (-9223372036854775808 : Int) ≤ ((k : Int) + 1); omega, by show ((k : Int) + 1) ≤ (9223372036854775807 : Int); omega⟩, ?_⟩
    refine ⟨rfl, (trimL p).length - (k + 1), by omega, k + 1, by omega, rfl, rfl, ?_⟩
    rw [take_snoc p k (by omega)]
    rfl
  · replace h0 : ¬ ((k : Int) ≤ (degL p)) := h0
    have hk : k = (trimL p).length := by omega
    rw [hk, trimL_take]
    exact ⟨rfl, rfl, rfl, rfl⟩
def CRTrim : List (Nat × Con) := (82, pureC [.v (.sl .u8)] sRTrim) :: CRDeg
theorem kRTrim : Known Tryd.prog (En CRTrim tys G6 QPrs) := kRDeg.add Tryd.func82 Tryd.call82 [.o .u8] fun ds p v bs h hp => by
  unfold sRTrim at h
  split at h <;> simp only [Option.some.injEq, Prod.mk.injEq, reduceCtorEq] at h
  obtain ⟨rfl, rfl, rfl⟩ := h
  exact bRTrim _ hp
theorem xorL_step (z l : List UInt8) (k : Nat) (hk : k < l.length) (hl : l.length ≤ z.length) : xorL z (l.take (k + 1)) = (xorL z (l.take k)).set k ((xorL z (l.take k)).getD k 0 ^^^ l.getD k 0) := by
  have h := xorL_snoc (l.getD k 0) z (l.take k)
  rw [← take_snoc l k hk, List.length_take, Nat.min_eq_left (by omega), xorL_length, List.length_take, Nat.min_eq_left (by omega : k ≤ l.length), Nat.max_eq_left (by omega : k ≤ z.length), if_neg (by omega)] at h
  exact h
theorem xorL_zeros : ∀ (n : Nat) (a : List UInt8), n ≤ a.length → xorL (List.replicate n 0) a = a
  | 0, a, h => by cases a <;> rfl
  | n + 1, [], h => by simp at h
  | n + 1, x :: a, h => by rw [List.replicate_succ, xorL, xorL_zeros n a (by simpa using h)]; simp
theorem trimL_zeros (a : List UInt8) : ∀ n, trimL (a ++ List.replicate n 0) = trimL a
  | 0 => by simp
  | n + 1 => by rw [List.replicate_succ', ← List.append_assoc, trimL_snoc, if_pos rfl, trimL_zeros a n]
theorem xorL_zeros_ge : ∀ (n : Nat) (a : List UInt8), a.length ≤ n → xorL (List.replicate n 0) a = a ++ List.replicate (n - a.length) 0
  | n, [], h => by simp [xorL_nil]
  | 0, x :: a, h => by simp at h
  | n + 1, x :: a, h => by rw [List.replicate_succ, xorL, xorL_zeros_ge n a (by simpa using h)]; simp
theorem xorL_pad : ∀ (a b : List UInt8) (n : Nat), ∃ m, xorL (a ++ List.replicate n 0) b = xorL a b ++ List.replicate m 0
  | [], b, n => by
    rw [List.nil_append, xorL]
    rcases Nat.le_total n b.length with h | h
    · exact ⟨0, by rw [xorL_zeros n b h]; simp⟩
    · exact ⟨_, xorL_zeros_ge n b h⟩
  | x :: a, [], n => ⟨n, by simp [xorL]⟩
  | x :: a, y :: b, n => by
    obtain ⟨m, hm⟩ := xorL_pad a b n
    exact ⟨m, by rw [List.cons_append, xorL, hm, xorL]; rfl⟩
theorem radd_ok (a b : List UInt8) : trimL (xorL (xorL (List.replicate (max a.length b.length) 0) a) b) = sumL [a, b] := by
  have e : sumL [a, b] = trimL (xorL a b) := by simp [sumL, sumA, xorL]
  rw [e, xorL_zeros_ge _ a (by omega)]
  obtain ⟨m, hm⟩ := xorL_pad a b (max a.length b.length - a.length)
  rw [hm, trimL_zeros]
def sRAdd : List V → Option (Prop × V × List Blk)
  | [.sl false .u8 a, .sl false .u8 b] => some (a.length ≤ 1000000 ∧ b.length ≤ 1000000, .own .u8 0, [.row true .u8 (sumL [a, b])])
  | _ => none
set_option maxHeartbeats 1000000 in
theorem bRAdd (a : List UInt8) (b : List UInt8) (hp0 : a.length ≤ 1000000) (hp1 : b.length ≤ 1000000) : bodyP (En CRTrim tys G6 QPrs) Tryd.f70 [.o .u8] [.sl false .u8 a, .sl false .u8 b] (.own .u8 0) [.row true .u8 (sumL [a, b])] := by
  obtain ⟨z, hz⟩ : ∃ z : List UInt8, z = List.replicate (max a.length b.length) 0 := ⟨_, rfl⟩
  have hzl : z.length = max a.length b.length := by rw [hz, List.length_replicate]
  have hmx : (max (a.length : Int) (b.length : Int)).toNat = max a.length b.length := by omega
  refine ⟨⟨rfl, by show (0 : Int) ≤ max (a.length : Int) (b.length : Int); omega, by show max (a.length : Int) (b.length : Int) ≤ (1000000000 : Int); omega⟩, 0, [(0, .k), (1, .k), (5, .o .u8), (6, .k)], fun n vs H => ∃ (k : Nat), k ≤ a.length ∧ n = a.length - k ∧ vs = [.sl false .u8 a, .sl false .u8 b, .own .u8 0, .int .i64 (k : Int)] ∧ H = [.row true .u8 (xorL z (a.take k))], ⟨rfl, a.length, 0, by omega, by omega, rfl, by rw [List.take_zero, xorL_nil, hz, ← hmx]; rfl⟩, ?_⟩
  rintro n vs H ⟨k, hc1_0, rfl, rfl, rfl⟩
  have hl : (xorL z (a.take k)).length = max a.length b.length := by rw [xorL_length, List.length_take]; omega
  refine ⟨fun h0 => ?_, fun h0 => ?_⟩
  · replace h0 : (k : Int) < (a.length : Int) := h0
    refine ⟨by kernel_rfl, ⟨by show (0 : Int) ≤ (k : Int); omega, by show (k : Int) < ((xorL z (a.take k)).length : Int); omega⟩, ⟨by show (0 : Int) ≤ (k : Int); omega, by show (k : Int) < (a.length : Int); omega⟩, ⟨by show (0 : Int) ≤ (k : Int); omega, by show (k : Int) < ((xorL z (a.take k)).length : Int); omega⟩, ⟨rfl, rfl⟩, ⟨by show (-9223372036854775808 : Int) ≤ ((k : Int) + 1); omega, by show ((k : Int) + 1) ≤ (9223372036854775807 : Int); omega⟩, ?_⟩
    exact ⟨rfl, a.length - (k + 1), by omega, k + 1, by omega, rfl, rfl, by rw [xorL_step z a k (by omega) (by omega)]; rfl⟩
  · replace h0 : ¬ ((k : Int) < (a.length : Int)) := h0
    have hk : k = a.length := by omega
    refine ⟨0, [(1, .k), (5, .o .u8), (7, .k)], fun n vs H => ∃ (k : Nat), k ≤ b.length ∧ n = b.length - k ∧ vs = [.sl false .u8 b, .own .u8 0, .int .i64 (k : Int)] ∧ H = [.row true .u8 (xorL (xorL z a) (b.take k))], ⟨rfl, b.length, 0, by omega, by omega, rfl, by rw [hk]; rw [List.take_zero, xorL_nil, List.take_length]; rfl⟩, ?_⟩
    rintro n vs H ⟨k, hc2_0, rfl, rfl, rfl⟩
    have hl : (xorL (xorL z a) (b.take k)).length = max a.length b.length := by rw [xorL_length, xorL_length, List.length_take]; omega
    refine ⟨fun h1 => ?_, fun h1 => ?_⟩
    · replace h1 : (k : Int) < (b.length : Int) := h1
      refine ⟨by kernel_rfl, ⟨by show (0 : Int) ≤ (k : Int); omega, by show (k : Int) < ((xorL (xorL z a) (b.take k)).length : Int); omega⟩, ⟨by show (0 : Int) ≤ (k : Int); omega, by show (k : Int) < (b.length : Int); omega⟩, ⟨by show (0 : Int) ≤ (k : Int); omega, by show (k : Int) < ((xorL (xorL z a) (b.take k)).length : Int); omega⟩, ⟨rfl, rfl⟩, ⟨by show (-9223372036854775808 : Int) ≤ ((k : Int) + 1); omega, by show ((k : Int) + 1) ≤ (9223372036854775807 : Int); omega⟩, ?_⟩
      exact ⟨rfl, b.length - (k + 1), by omega, k + 1, by omega, rfl, rfl, by rw [xorL_step (xorL z a) b k (by omega) (by rw [xorL_length]; omega)]; rfl⟩
    · replace h1 : ¬ ((k : Int) < (b.length : Int)) := h1
      have hk : k = b.length := by omega
      refine ⟨by show (xorL (xorL z a) (b.take k)).length ≤ 1000000; first | omega | assumption | (simp only [List.length_cons, List.length_nil, List.length_append, List.length_take, List.length_drop, List.length_set, List.length_replicate]; omega), ?_⟩
      rw [hk, List.take_length, hz, radd_ok]
      exact ⟨rfl, rfl, rfl, rfl⟩
def CRAdd : List (Nat × Con) := (70, pureC [.v (.sl .u8), .v (.sl .u8)] sRAdd) :: CRTrim
theorem kRAdd : Known Tryd.prog (En CRAdd tys G6 QPrs) := kRTrim.add Tryd.func70 Tryd.call70 [.o .u8] fun ds p v bs h hp => by
  unfold sRAdd at h
  split at h <;> simp only [Option.some.injEq, Prod.mk.injEq, reduceCtorEq] at h
  obtain ⟨rfl, rfl, rfl⟩ := h
  exact bRAdd _ _ hp.1 hp.2
def sRProd : List V → Option (Prop × V × List Blk)
  | [.sl false .u8 a, .sl false .u8 b] => some (a.length ≤ 100000 ∧ b.length ≤ 100000, .own .u8 0, [.row true .u8 (prodL a b)])
  | _ => none
set_option maxHeartbeats 1000000 in
theorem bRProd (a : List UInt8) (b : List UInt8) (hp0 : a.length ≤ 100000) (hp1 : b.length ≤ 100000) : bodyP (En CRAdd tys G6 QPrs) Tryd.f68 [.o .u8] [.sl false .u8 a, .sl false .u8 b] (.own .u8 0) [.row true .u8 (prodL a b)] := by
  obtain ⟨fin, hfin⟩ : ∃ fin, fin = prodA b (List.replicate (a.length + b.length) 0) 0 a := ⟨_, rfl⟩
  have hfl : fin.length = a.length + b.length := by rw [hfin, prodA_len, List.length_replicate]
  have hab : ((a.length : Int) + (b.length : Int)).toNat = a.length + b.length := by omega
  refine ⟨⟨by show (-9223372036854775808 : Int) ≤ ((a.length : Int) + (b.length : Int)); omega, by show ((a.length : Int) + (b.length : Int)) ≤ (9223372036854775807 : Int); omega⟩, ⟨rfl, by show (0 : Int) ≤ ((a.length : Int) + (b.length : Int)); omega, by show ((a.length : Int) + (b.length : Int)) ≤ (1000000000 : Int); omega⟩, 0, [(0, .k), (1, .k), (5, .o .u8), (6, .k)], fun n vs H => ∃ (i : Nat) (cur : List UInt8), i ≤ a.length ∧ cur.length = a.length + b.length ∧ prodA b cur i (a.drop i) = fin ∧ n = a.length - i ∧ vs = [.sl false .u8 a, .sl false .u8 b, .own .u8 0, .int .i64 (i : Int)] ∧ H = [.row true .u8 cur], ⟨rfl, a.length, 0, List.replicate (a.length + b.length) 0, by omega, by rw [List.length_replicate], hfin.symm, by omega, rfl, by rw [← hab]; rfl⟩, ?_⟩
  rintro n vs H ⟨i, cur, hc1_0, hc1_1, hc1_2, rfl, rfl, rfl⟩
  refine ⟨fun h0 => ?_, fun h0 => ?_⟩
  · replace h0 : (i : Int) < (a.length : Int) := h0
    rw [drop_one a i (by omega), prodA] at hc1_2
    refine ⟨0, [(0, .k), (1, .k), (5, .o .u8), (6, .k), (7, .k)], fun n vs H => ∃ (k : Nat) (c2 : List UInt8), k ≤ b.length ∧ c2.length = a.length + b.length ∧ rowA (a.getD i 0) c2 (i + k) (b.drop k) = rowA (a.getD i 0) cur i b ∧ n = b.length - k ∧ vs = [.sl false .u8 a, .sl false .u8 b, .own .u8 0, .int .i64 (i : Int), .int .i64 (k : Int)] ∧ H = [.row true .u8 c2], ⟨rfl, b.length, 0, cur, by omega, hc1_1, rfl, by omega, rfl, rfl⟩, ?_⟩
    rintro n vs H ⟨k, c2, hc2_0, hc2_1, hc2_2, rfl, rfl, rfl⟩
    refine ⟨fun h1 => ?_, fun h1 => ?_⟩
    · replace h1 : (k : Int) < (b.length : Int) := h1
      refine ⟨by kernel_rfl, ⟨by show (-9223372036854775808 : Int) ≤ ((i : Int) + (k : Int)); omega, by show ((i : Int) + (k : Int)) ≤ (9223372036854775807 : Int); omega⟩, ⟨by show (-9223372036854775808 : Int) ≤ ((i : Int) + (k : Int)); omega, by show ((i : Int) + (k : Int)) ≤ (9223372036854775807 : Int); omega⟩, ⟨by show (0 : Int) ≤ ((i : Int) + (k : Int)); omega, by show ((i : Int) + (k : Int)) < (c2.length : Int); omega⟩, ⟨by show (0 : Int) ≤ (i : Int); omega, by show (i : Int) < (a.length : Int); omega⟩, ⟨by show (0 : Int) ≤ (k : Int); omega, by show (k : Int) < (b.length : Int); omega⟩, trivial, ⟨by show (0 : Int) ≤ ((i : Int) + (k : Int)); omega, by show ((i : Int) + (k : Int)) < (c2.length : Int); omega⟩, ⟨rfl, rfl⟩, ⟨by show (-9223372036854775808 : Int) ≤ ((k : Int) + 1); omega, by show ((k : Int) + 1) ≤ (9223372036854775807 : Int); omega⟩, ?_⟩
      rw [drop_one b k (by omega), rowA] at hc2_2
      exact ⟨rfl, b.length - (k + 1), by omega, k + 1, _, by omega, by rw [addAt_len]; exact hc2_1, hc2_2, rfl, rfl, rfl⟩
    · replace h1 : ¬ ((k : Int) < (b.length : Int)) := h1
      have hk : k = b.length := by omega
      rw [hk, List.drop_length, rowA] at hc2_2
      refine ⟨⟨by show (-9223372036854775808 : Int) ≤ ((i : Int) + 1); omega, by show ((i : Int) + 1) ≤ (9223372036854775807 : Int); omega⟩, ?_⟩
      exact ⟨rfl, a.length - (i + 1), by omega, i + 1, c2, by omega, hc2_1, by rw [hc2_2]; exact hc1_2, rfl, rfl, rfl⟩
  · replace h0 : ¬ ((i : Int) < (a.length : Int)) := h0
    refine ⟨by show cur.length ≤ 1000000; first | omega | assumption, ?_⟩
    have hi : i = a.length := by omega
    rw [hi, List.drop_length, prodA] at hc1_2
    rw [hc1_2, hfin]
    exact ⟨rfl, rfl, rfl, rfl⟩
def CRProd : List (Nat × Con) := (68, pureC [.v (.sl .u8), .v (.sl .u8)] sRProd) :: CRAdd
theorem kRProd : Known Tryd.prog (En CRProd tys G6 QPrs) := kRAdd.add Tryd.func68 Tryd.call68 [.o .u8] fun ds p v bs h hp => by
  unfold sRProd at h
  split at h <;> simp only [Option.some.injEq, Prod.mk.injEq, reduceCtorEq] at h
  obtain ⟨rfl, rfl, rfl⟩ := h
  exact bRProd _ _ hp.1 hp.2
end Go.Proofs.YtmkphnlpbngenaaDoor.S27

namespace Go.Proofs.YtmkphnlpbngenaaDoor.S27
open Go Go.Proofs.YtmkphnlpbngenaaDoor.Vc Go.Proofs
set_option maxRecDepth 100000
set_option linter.unusedVariables false

def lnA (xk : UInt8) (k : Nat) : List UInt8 → Nat → List UInt8 → List UInt8
  | [], _, p => p
  | x :: rest, i, p => lnA xk k rest (i + 1) (if i ≠ k then prodL p [mulL x (invL (xk ^^^ x)), invL (xk ^^^ x)] else p)
def lnO (xs ys : List UInt8) : Nat → Nat → List UInt8 → List UInt8
  | 0, _, out => out
  | f + 1, k, out => lnO xs ys f (k + 1) (sumL [out, lnA (xs.getD k 0) k xs 0 [ys.getD k 0]])
def lineL (xs ys : List UInt8) : List UInt8 := lnO xs ys xs.length 0 []
theorem lnA_len (xk : UInt8) (k : Nat) : ∀ (xs : List UInt8) (i : Nat) (p : List UInt8), (lnA xk k xs i p).length ≤ p.length + 2 * xs.length
  | [], i, p => by simp [lnA]
  | x :: xs, i, p => by
    rw [lnA]
    refine Nat.le_trans (lnA_len xk k xs (i + 1) _) ?_
    have := prodL_len p [mulL x (invL (xk ^^^ x)), invL (xk ^^^ x)]
    simp only [List.length_cons, List.length_nil] at this ⊢
    split <;> omega
theorem sumL_two_len (a b : List UInt8) (n : Nat) (ha : a.length ≤ n) (hb : b.length ≤ n) : (sumL [a, b]).length ≤ n := by
  refine Nat.le_trans (trimL_len _) (sumA_len _ _ fun r hr => ?_)
  simp only [List.mem_cons, List.not_mem_nil, or_false] at hr
  rcases hr with h | h <;> subst h <;> assumption
def sRLine : List V → Option (Prop × V × List Blk)
  | [.sl false .u8 a, .sl false .u8 b] => some (a.length ≤ 10000 ∧ a.length ≤ b.length, .own .u8 0, [.row true .u8 (lineL a b)])
  | _ => none
set_option maxHeartbeats 1000000 in
theorem bRLine (a : List UInt8) (b : List UInt8) (hp0 : a.length ≤ 10000) (hp1 : a.length ≤ b.length) : bodyP (En CRProd tys G6 QPrs) Tryd.f54 [.o .u8] [.sl false .u8 a, .sl false .u8 b] (.own .u8 0) [.row true .u8 (lineL a b)] := by
  refine ⟨0, [(0, .k), (1, .k), (5, .o .u8), (6, .k)], fun n vs H => ∃ (k : Nat) (out : List UInt8), k ≤ a.length ∧ out.length ≤ 2 * a.length + 1 ∧ lnO a b (a.length - k) k out = lineL a b ∧ n = a.length - k ∧ vs = [.sl false .u8 a, .sl false .u8 b, .own .u8 0, .int .i64 (k : Int)] ∧ H = [.row true .u8 out], ⟨rfl, a.length, 0, [], by omega, Nat.zero_le _, rfl, by omega, rfl, rfl⟩, ?_⟩
  rintro n vs H ⟨k, out, hc1_0, hc1_1, hc1_2, rfl, rfl, rfl⟩
  refine ⟨fun h0 => ?_, fun h0 => ?_⟩
  · replace h0 : (k : Int) < (a.length : Int) := h0
    rw [show a.length - k = (a.length - (k + 1)) + 1 by omega, lnO] at hc1_2
    refine ⟨⟨by show (0 : Int) ≤ (k : Int); omega, by show (k : Int) < (b.length : Int); omega⟩, 0, [(0, .k), (1, .k), (5, .o .u8), (6, .k), (7, .o .u8), (8, .k)], fun n vs H => ∃ (i : Nat) (p : List UInt8), i ≤ a.length ∧ p.length ≤ 2 * i + 1 ∧ lnA (a.getD k 0) k (a.drop i) i p = lnA (a.getD k 0) k a 0 [b.getD k 0] ∧ n = a.length - i ∧ vs = [.sl false .u8 a, .sl false .u8 b, .own .u8 0, .int .i64 (k : Int), .own .u8 1, .int .i64 (i : Int)] ∧ H = [.row true .u8 out, .row true .u8 p], ⟨rfl, a.length, 0, [b.getD k 0], by omega, Nat.le_refl _, rfl, by omega, rfl, rfl⟩, ?_⟩
    rintro n vs H ⟨i, p, hc2_0, hc2_1, hc2_2, rfl, rfl, rfl⟩
    refine ⟨fun h1 => ?_, fun h1 => ?_⟩
    · replace h1 : (i : Int) < (a.length : Int) := h1
      refine ⟨fun h2 => ?_, fun h2 => ?_⟩
      · replace h2 : (i : Int) ≠ (k : Int) := h2
        refine ⟨by kernel_rfl, ⟨by show (0 : Int) ≤ (k : Int); omega, by show (k : Int) < (a.length : Int); omega⟩, ⟨by show (0 : Int) ≤ (i : Int); omega, by show (i : Int) < (a.length : Int); omega⟩, trivial, ⟨by show (0 : Int) ≤ (i : Int); omega, by show (i : Int) < (a.length : Int); omega⟩, trivial, ⟨by show p.length ≤ 100000; first | omega | assumption, by show ([mulL (a.getD i 0) (invL ((a.getD k 0) ^^^ (a.getD i 0))), invL ((a.getD k 0) ^^^ (a.getD i 0))] : List UInt8).length ≤ 100000; first | omega | assumption | (simp only [List.length_cons, List.length_nil, List.length_append, List.length_take, List.length_drop, List.length_set, List.length_replicate]; omega)⟩, ⟨by show (-9223372036854775808 : Int) ≤ ((i : Int) + 1); omega, by show ((i : Int) + 1) ≤ (9223372036854775807 : Int); omega⟩, ?_⟩
        rw [drop_one a i (by omega), lnA] at hc2_2
        first
          | rw [if_pos (fun h => h2 (congrArg Int.ofNat h))] at hc2_2
          | rw [if_neg (fun h => h2 (fun e => h (by omega)))] at hc2_2
        have hpl := prodL_len p [mulL (a.getD i 0) (invL (a.getD k 0 ^^^ a.getD i 0)), invL (a.getD k 0 ^^^ a.getD i 0)]
        exact ⟨rfl, a.length - (i + 1), by omega, i + 1, _, by omega, by simp only [List.length_cons, List.length_nil] at hpl; omega, hc2_2, rfl, rfl, rfl⟩
      · replace h2 : ¬ ((i : Int) ≠ (k : Int)) := h2
        refine ⟨⟨by show (-9223372036854775808 : Int) ≤ ((i : Int) + 1); omega, by show ((i : Int) + 1) ≤ (9223372036854775807 : Int); omega⟩, ?_⟩
        rw [drop_one a i (by omega), lnA] at hc2_2
        first
          | rw [if_pos (fun h => h2 (congrArg Int.ofNat h))] at hc2_2
          | rw [if_neg (fun h => h2 (fun e => h (by omega)))] at hc2_2
        have hpl := prodL_len p [mulL (a.getD i 0) (invL (a.getD k 0 ^^^ a.getD i 0)), invL (a.getD k 0 ^^^ a.getD i 0)]
        exact ⟨rfl, a.length - (i + 1), by omega, i + 1, _, by omega, by simp only [List.length_cons, List.length_nil] at hpl; omega, hc2_2, rfl, rfl, rfl⟩
    · replace h1 : ¬ ((i : Int) < (a.length : Int)) := h1
      refine ⟨⟨by show out.length ≤ 1000000; first | omega | assumption, by show p.length ≤ 1000000; first | omega | assumption⟩, ⟨by show (-9223372036854775808 : Int) ≤ ((k : Int) + 1); omega, by show ((k : Int) + 1) ≤ (9223372036854775807 : Int); omega⟩, ?_⟩
      have hi : i = a.length := by omega
      rw [hi, List.drop_length, lnA] at hc2_2
      have hl := lnA_len (a.getD k 0) k a 0 [b.getD k 0]
      rw [← hc2_2] at hl
      refine ⟨rfl, a.length - (k + 1), by omega, k + 1, sumL [out, p], by omega, sumL_two_len _ _ _ hc1_1 (by simp only [List.length_cons, List.length_nil] at hl; omega), ?_, rfl, rfl, rfl⟩
      rw [hc2_2]
      exact hc1_2
  · replace h0 : ¬ ((k : Int) < (a.length : Int)) := h0
    have hk : k = a.length := by omega
    rw [hk, Nat.sub_self, lnO] at hc1_2
    rw [hc1_2]
    exact ⟨rfl, rfl, rfl, rfl⟩
def CRLine : List (Nat × Con) := (54, pureC [.v (.sl .u8), .v (.sl .u8)] sRLine) :: CRProd
theorem kRLine : Known Tryd.prog (En CRLine tys G6 QPrs) := kRProd.add Tryd.func54 Tryd.call54 [.o .u8] fun ds p v bs h hp => by
  unfold sRLine at h
  split at h <;> simp only [Option.some.injEq, Prod.mk.injEq, reduceCtorEq] at h
  obtain ⟨rfl, rfl, rfl⟩ := h
  exact bRLine _ _ hp.1 hp.2
end Go.Proofs.YtmkphnlpbngenaaDoor.S27

namespace Go.Proofs.YtmkphnlpbngenaaDoor.S27
open Go

/-! ### the specification's ways -/
def atK (l : Rw) (x : UInt8) (k : Nat) : List UInt8 := (List.range k).map fun j => horner x (colL l j)
theorem atK_len (l : Rw) (x : UInt8) (k : Nat) : (atK l x k).length = k := by simp [atK]
theorem atK_snoc {l : Rw} {x : UInt8} {k : Nat} {y : UInt8} (h : y = horner x (colL l k)) : atK l x (k + 1) = atK l x k ++ [y] := by unfold atK; rw [List.range_succ, List.map_append, h]; rfl
theorem atK_all {l : Rw} {x : UInt8} (h1 : 1 ≤ l.length) (h : ∀ s ∈ l, s.length = n0 l) : atK l x (n0 l) = atL l x := by
  refine ext_get (atK_len _ _ _) (at_len l h1 h) fun k hk => ?_
  rw [at_get hk l h1 h]
  simp [atK, List.getD_eq_getElem?_getD, hk]
theorem col_snoc (l : Rw) (k i : Nat) (hi : i < l.length) : colL (l.take (i + 1)) k = colL (l.take i) k ++ [(l.getD i []).getD k 0] := map_take_snoc [] _ l i hi
def sumK (a b : List UInt8) (k : Nat) : List UInt8 := (List.range k).map fun i => co a i ^^^ co b i
theorem sumK_len (a b : List UInt8) (k : Nat) : (sumK a b k).length = k := by simp [sumK]
theorem sumK_snoc (a b : List UInt8) (k : Nat) : sumK a b (k + 1) = sumK a b k ++ [co a k ^^^ co b k] := by unfold sumK; rw [List.range_succ, List.map_append]; rfl
theorem sumK_all (a b : List UInt8) : sumK a b (max a.length b.length) = sumB a b := by
  refine ext_get (sumK_len _ _ _) (sum_len a b) fun k hk => ?_
  have e : (sumK a b (max a.length b.length)).getD k 0 = co a k ^^^ co b k := by simp [sumK, List.getD_eq_getElem?_getD, hk]
  have key : ∀ (a b : List UInt8), k < a.length → (sumF a b).getD k 0 = co a k ^^^ co b k := fun a b h => by
    have e : (sumF a b).getD k 0 = sumG a b k := by simp [sumF, List.getD_eq_getElem?_getD, h]
    rw [e]
    unfold sumG
    split
    · rfl
    · rw [co_ge b k (by omega)]; show a.getD k 0 = a.getD k 0 ^^^ 0; simp
  rw [e]
  unfold sumB
  split
  · rw [key b a (by omega), UInt8.xor_comm]
  · rw [key a b (by omega)]
def sclK (c : UInt8) (s : List UInt8) (k : Nat) : List UInt8 := (List.range k).map (scaleF c s)
theorem sclK_len (c : UInt8) (s : List UInt8) (k : Nat) : (sclK c s k).length = k := by simp [sclK]
theorem sclK_snoc (c : UInt8) (s : List UInt8) (k : Nat) : sclK c s (k + 1) = sclK c s k ++ [mulL c (s.getD k 0)] := by unfold sclK; rw [List.range_succ, List.map_append]; rfl
end Go.Proofs.YtmkphnlpbngenaaDoor.S27

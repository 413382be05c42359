/- Texts of this claim: S26.D6, S26.CdSplitCountsExactly. -/
import Derived.Test.YtakbedmeieeekaaDoorS4
import Derived.Test.YtakbedmeieeekaaDoorS5
set_option linter.unusedVariables false
set_option linter.unusedSimpArgs false
namespace Go.Proofs.YtakbedmeieeekaaDoor.S26
open Go Go.Proofs.YtakbedmeieeekaaDoor.Vc Go.Proofs
set_option maxRecDepth 100000
set_option linter.unusedVariables false

def sLCnt : List V → Option (Prop × V × List Blk)
  | [.u8 sec, .dat false (.arr 2 .u8) hh, .dat false (.arr 2 .u8) bb] => some (hh.length = 2 ∧ bb.length = 2, .b True, [])
  | _ => none
set_option maxHeartbeats 4000000 in
theorem bLCnt (sec : UInt8) (hh : List UInt8) (bb : List UInt8) (hp0 : hh.length = 2) (hp1 : bb.length = 2) : bodyP (En CSan tys G6 QCo2 [1000002]) Tryd.f7 [.k] [.u8 sec, .dat false (.arr 2 .u8) hh, .dat false (.arr 2 .u8) bb] (.b True) [] := by
  refine ⟨⟨rfl, by first | assumption | rfl | simp⟩, ⟨rfl, by first | assumption | rfl | simp⟩, by decide, by kernel_rfl, ⟨by show (0 : Int) ≤ 0; omega, by show 0 < (2 : Int); omega, by first | assumption | rfl | simp⟩, .inl ⟨⟨by show (0 : Int) ≤ ((hh.getD 0 0).toNat : Int); omega, by show (0 : Int) < 12; omega⟩, ?_⟩⟩
  refine ⟨⟨by show (0 : Int) ≤ 1; omega, by show 1 < (2 : Int); omega, by first | assumption | rfl | simp⟩, .inl ⟨⟨by show (0 : Int) ≤ ((hh.getD 1 0).toNat : Int); omega, by show (0 : Int) < 12; omega⟩, ?_⟩⟩
  refine ⟨fun h0 => ?_, fun h0 => ?_⟩
  · replace h0 : (((hh.getD 1 0).toNat : Int) % 12) ≤ (((hh.getD 0 0).toNat : Int) % 12) := h0
    refine ⟨trivial, ?_⟩
    exact ⟨rfl, rfl, rfl, rfl⟩
  · replace h0 : ¬ ((((hh.getD 1 0).toNat : Int) % 12) ≤ (((hh.getD 0 0).toNat : Int) % 12)) := h0
    have ha : knw (((hh.getD 0 0).toNat : Int) % 12) := ⟨by omega, by omega⟩
    have hb : knw (((hh.getD 1 0).toNat : Int) % 12) := ⟨by omega, by omega⟩
    have hab : (((hh.getD 0 0).toNat : Int) % 12) < (((hh.getD 1 0).toNat : Int) % 12) := by omega
    refine ⟨⟨by show (0 : Int) ≤ 0; omega, by show 0 < (2 : Int); omega, by first | assumption | rfl | simp⟩, rfl, trivial, rfl, fun h1 => ?_, fun h1 => ?_⟩
    · replace h1 : (sec % 2) = 1 := h1
      refine ⟨⟨by show (0 : Int) ≤ 1; omega, by show 1 < (2 : Int); omega, by first | assumption | rfl | simp⟩, rfl, trivial, rfl, ⟨rfl, rfl⟩, by show ([((((hh.getD 0 0).toNat : Int) % 12), ([(bb.getD 0 0)] : List UInt8), ())] : List (Int × (List UInt8 × Unit))).length + ([((((hh.getD 1 0).toNat : Int) % 12), ([(bb.getD 1 0)] : List UInt8), ())] : List (Int × (List UInt8 × Unit))).length ≤ 1000000000; simp only [List.length_cons, List.length_nil]; omega, 4, [(0, .k), (8, .k), (9, .k), (10, .k), (11, .k), (49, .k)], fun nM vs H => ∃ (q : Nat), q ≤ 256 ∧ nM = 256 - q ∧ vs = [.u8 sec, .int .i64 (((hh.getD 0 0).toNat : Int) % 12), .int .i64 (((hh.getD 1 0).toNat : Int) % 12), .own (.cons (.int .i64) (.cons .str .nil)) 3, .int .i64 ((cnK sec (((hh.getD 0 0).toNat : Int) % 12) (((hh.getD 1 0).toNat : Int) % 12) (([((((hh.getD 0 0).toNat : Int) % 12), ([(bb.getD 0 0)] : List UInt8), ())] : List (Int × (List UInt8 × Unit))) ++ ([((((hh.getD 1 0).toNat : Int) % 12), ([(bb.getD 1 0)] : List UInt8), ())] : List (Int × (List UInt8 × Unit)))) q : Nat) : Int), .int .i64 (q : Int)] ∧ H = [.row true .u8 hh, .row true .u8 bb, .row true .u8 ([(bb.getD 0 0)] : List UInt8), .row true (.cons (.int .i64) (.cons .str .nil)) (([((((hh.getD 0 0).toNat : Int) % 12), ([(bb.getD 0 0)] : List UInt8), ())] : List (Int × (List UInt8 × Unit))) ++ ([((((hh.getD 1 0).toNat : Int) % 12), ([(bb.getD 1 0)] : List UInt8), ())] : List (Int × (List UInt8 × Unit))))], ⟨rfl, 256, 0, by omega, by omega, rfl, rfl⟩, ?_⟩
      rintro nM vs H ⟨q, hc1_0, rfl, rfl, rfl⟩
      have hcn := cnK_le sec (((hh.getD 0 0).toNat : Int) % 12) (((hh.getD 1 0).toNat : Int) % 12) (([((((hh.getD 0 0).toNat : Int) % 12), ([(bb.getD 0 0)] : List UInt8), ())] : List (Int × (List UInt8 × Unit))) ++ ([((((hh.getD 1 0).toNat : Int) % 12), ([(bb.getD 1 0)] : List UInt8), ())] : List (Int × (List UInt8 × Unit)))) q
      refine ⟨fun h2 => ?_, fun h2 => ?_⟩
      · replace h2 : (q : Int) < 256 := h2
        have hq : ((q : Int) % 256).toNat = q := by omega
        have hSp := spl2 (sec := sec) (r := (UInt8.ofNat ((q : Int) % 256).toNat)) ha hb hab
        have hl2 : (splL ([sec] : List UInt8) 2 ([(((hh.getD 0 0).toNat : Int) % 12), (((hh.getD 1 0).toNat : Int) % 12)] : List Int) ([UInt8.ofNat ((q : Int) % 256).toNat] : List UInt8)).length = 2 := hSp.llen
        refine ⟨rfl, rfl, rfl, ⟨by show ([sec] : List UInt8).length ≤ 1048576; first | omega | assumption | (simp only [List.length_cons, List.length_nil, List.length_append, List.length_take, List.length_drop, List.length_set, List.length_replicate]; omega), by show ([(((hh.getD 0 0).toNat : Int) % 12), (((hh.getD 1 0).toNat : Int) % 12)] : List Int).length ≤ 1048576; first | omega | assumption | (simp only [List.length_cons, List.length_nil, List.length_append, List.length_take, List.length_drop, List.length_set, List.length_replicate]; omega), by show ([UInt8.ofNat ((q : Int) % 256).toNat] : List UInt8).length ≤ 1048576; first | omega | assumption | (simp only [List.length_cons, List.length_nil, List.length_append, List.length_take, List.length_drop, List.length_set, List.length_replicate]; omega)⟩, fun h3 => ?_, fun h3 => ?_⟩
        · replace h3 : ¬ ((splE ([sec] : List UInt8) 2 ([(((hh.getD 0 0).toNat : Int) % 12), (((hh.getD 1 0).toNat : Int) % 12)] : List Int) ([UInt8.ofNat ((q : Int) % 256).toNat] : List UInt8)) ≠ 0) := h3
          refine ⟨fun h4 => ?_, fun h4 => ?_⟩
          · replace h4 : (((splL ([sec] : List UInt8) 2 ([(((hh.getD 0 0).toNat : Int) % 12), (((hh.getD 1 0).toNat : Int) % 12)] : List Int) ([UInt8.ofNat ((q : Int) % 256).toNat] : List UInt8)).length : Nat) : Int) ≠ 2 := h4
            omega
          · replace h4 : ¬ ((((splL ([sec] : List UInt8) 2 ([(((hh.getD 0 0).toNat : Int) % 12), (((hh.getD 1 0).toNat : Int) % 12)] : List Int) ([UInt8.ofNat ((q : Int) % 256).toNat] : List UInt8)).length : Nat) : Int) ≠ 2) := h4
            refine ⟨⟨by omega, by show ((2 : Nat) : Int) ≤ (((splL ([sec] : List UInt8) 2 ([(((hh.getD 0 0).toNat : Int) % 12), (((hh.getD 1 0).toNat : Int) % 12)] : List Int) ([UInt8.ofNat ((q : Int) % 256).toNat] : List UInt8)).length : Nat) : Int); rw [hl2]; exact Int.le_refl _⟩, ⟨by show (((splL ([sec] : List UInt8) 2 ([(((hh.getD 0 0).toNat : Int) % 12), (((hh.getD 1 0).toNat : Int) % 12)] : List Int) ([UInt8.ofNat ((q : Int) % 256).toNat] : List UInt8)).drop 0).take ((([((((hh.getD 0 0).toNat : Int) % 12), ([(bb.getD 0 0)] : List UInt8), ())] : List (Int × (List UInt8 × Unit))) ++ ([((((hh.getD 1 0).toNat : Int) % 12), ([(bb.getD 1 0)] : List UInt8), ())] : List (Int × (List UInt8 × Unit)))).length - 0)).length ≤ 1048576; rw [List.length_take, List.length_drop, hl2]; omega, by show (([((((hh.getD 0 0).toNat : Int) % 12), ([(bb.getD 0 0)] : List UInt8), ())] : List (Int × (List UInt8 × Unit))) ++ ([((((hh.getD 1 0).toNat : Int) % 12), ([(bb.getD 1 0)] : List UInt8), ())] : List (Int × (List UInt8 × Unit)))).length ≤ 1048576; first | omega | assumption | (simp only [List.length_cons, List.length_nil, List.length_append, List.length_take, List.length_drop, List.length_set, List.length_replicate]; omega)⟩, fun h5 => ?_, fun h5 => ?_⟩
            · replace h5 : (((splL ([sec] : List UInt8) 2 ([(((hh.getD 0 0).toNat : Int) % 12), (((hh.getD 1 0).toNat : Int) % 12)] : List Int) ([UInt8.ofNat ((q : Int) % 256).toNat] : List UInt8)).drop 0).take ((([((((hh.getD 0 0).toNat : Int) % 12), ([(bb.getD 0 0)] : List UInt8), ())] : List (Int × (List UInt8 × Unit))) ++ ([((((hh.getD 1 0).toNat : Int) % 12), ([(bb.getD 1 0)] : List UInt8), ())] : List (Int × (List UInt8 × Unit)))).length - 0)) = (([((((hh.getD 0 0).toNat : Int) % 12), ([(bb.getD 0 0)] : List UInt8), ())] : List (Int × (List UInt8 × Unit))) ++ ([((((hh.getD 1 0).toNat : Int) % 12), ([(bb.getD 1 0)] : List UInt8), ())] : List (Int × (List UInt8 × Unit)))) := h5
              have hcy := cnK_yes (show okN sec (((hh.getD 0 0).toNat : Int) % 12) (((hh.getD 1 0).toNat : Int) % 12) (([((((hh.getD 0 0).toNat : Int) % 12), ([(bb.getD 0 0)] : List UInt8), ())] : List (Int × (List UInt8 × Unit))) ++ ([((((hh.getD 1 0).toNat : Int) % 12), ([(bb.getD 1 0)] : List UInt8), ())] : List (Int × (List UInt8 × Unit)))) q = true by unfold okN; rw [decide_eq_true_eq, show UInt8.ofNat q = (UInt8.ofNat ((q : Int) % 256).toNat) by rw [hq]]; exact h5)
              refine ⟨⟨by show (-9223372036854775808 : Int) ≤ (((cnK sec (((hh.getD 0 0).toNat : Int) % 12) (((hh.getD 1 0).toNat : Int) % 12) (([((((hh.getD 0 0).toNat : Int) % 12), ([(bb.getD 0 0)] : List UInt8), ())] : List (Int × (List UInt8 × Unit))) ++ ([((((hh.getD 1 0).toNat : Int) % 12), ([(bb.getD 1 0)] : List UInt8), ())] : List (Int × (List UInt8 × Unit)))) q : Nat) : Int) + 1); omega, by show (((cnK sec (((hh.getD 0 0).toNat : Int) % 12) (((hh.getD 1 0).toNat : Int) % 12) (([((((hh.getD 0 0).toNat : Int) % 12), ([(bb.getD 0 0)] : List UInt8), ())] : List (Int × (List UInt8 × Unit))) ++ ([((((hh.getD 1 0).toNat : Int) % 12), ([(bb.getD 1 0)] : List UInt8), ())] : List (Int × (List UInt8 × Unit)))) q : Nat) : Int) + 1) ≤ (9223372036854775807 : Int); omega⟩, ⟨by show (-9223372036854775808 : Int) ≤ ((q : Int) + 1); omega, by show ((q : Int) + 1) ≤ (9223372036854775807 : Int); omega⟩, ?_⟩
              exact ⟨rfl, 256 - (q + 1), by omega, q + 1, by omega, rfl, by rw [hcy]; rfl, rfl⟩
            · replace h5 : ¬ ((((splL ([sec] : List UInt8) 2 ([(((hh.getD 0 0).toNat : Int) % 12), (((hh.getD 1 0).toNat : Int) % 12)] : List Int) ([UInt8.ofNat ((q : Int) % 256).toNat] : List UInt8)).drop 0).take ((([((((hh.getD 0 0).toNat : Int) % 12), ([(bb.getD 0 0)] : List UInt8), ())] : List (Int × (List UInt8 × Unit))) ++ ([((((hh.getD 1 0).toNat : Int) % 12), ([(bb.getD 1 0)] : List UInt8), ())] : List (Int × (List UInt8 × Unit)))).length - 0)) = (([((((hh.getD 0 0).toNat : Int) % 12), ([(bb.getD 0 0)] : List UInt8), ())] : List (Int × (List UInt8 × Unit))) ++ ([((((hh.getD 1 0).toNat : Int) % 12), ([(bb.getD 1 0)] : List UInt8), ())] : List (Int × (List UInt8 × Unit))))) := h5
              have hcy := cnK_no (show ¬ okN sec (((hh.getD 0 0).toNat : Int) % 12) (((hh.getD 1 0).toNat : Int) % 12) (([((((hh.getD 0 0).toNat : Int) % 12), ([(bb.getD 0 0)] : List UInt8), ())] : List (Int × (List UInt8 × Unit))) ++ ([((((hh.getD 1 0).toNat : Int) % 12), ([(bb.getD 1 0)] : List UInt8), ())] : List (Int × (List UInt8 × Unit)))) q = true by unfold okN; rw [decide_eq_true_eq, show UInt8.ofNat q = (UInt8.ofNat ((q : Int) % 256).toNat) by rw [hq]]; exact h5)
              refine ⟨⟨by show (-9223372036854775808 : Int) ≤ ((q : Int) + 1); omega, by show ((q : Int) + 1) ≤ (9223372036854775807 : Int); omega⟩, ?_⟩
              exact ⟨rfl, 256 - (q + 1), by omega, q + 1, by omega, rfl, by rw [hcy]; rfl, rfl⟩
        · replace h3 : (splE ([sec] : List UInt8) 2 ([(((hh.getD 0 0).toNat : Int) % 12), (((hh.getD 1 0).toNat : Int) % 12)] : List Int) ([UInt8.ofNat ((q : Int) % 256).toNat] : List UInt8)) ≠ 0 := h3
          exact absurd hSp.e h3
      · replace h2 : ¬ ((q : Int) < 256) := h2
        have hq : q = 256 := by omega
        have hcc : ftN (([((((hh.getD 0 0).toNat : Int) % 12), ([(bb.getD 0 0)] : List UInt8), ())] : List (Int × (List UInt8 × Unit))) ++ ([((((hh.getD 1 0).toNat : Int) % 12), ([(bb.getD 1 0)] : List UInt8), ())] : List (Int × (List UInt8 × Unit)))) 2 [sec] = 0 ∧ (ftP (([((((hh.getD 0 0).toNat : Int) % 12), ([(bb.getD 0 0)] : List UInt8), ())] : List (Int × (List UInt8 × Unit))) ++ ([((((hh.getD 1 0).toNat : Int) % 12), ([(bb.getD 1 0)] : List UInt8), ())] : List (Int × (List UInt8 × Unit)))) 2 [sec] ↔ cnK sec (((hh.getD 0 0).toNat : Int) % 12) (((hh.getD 1 0).toNat : Int) % 12) (([((((hh.getD 0 0).toNat : Int) % 12), ([(bb.getD 0 0)] : List UInt8), ())] : List (Int × (List UInt8 × Unit))) ++ ([((((hh.getD 1 0).toNat : Int) % 12), ([(bb.getD 1 0)] : List UInt8), ())] : List (Int × (List UInt8 × Unit)))) 256 = 1) ∧ (cnK sec (((hh.getD 0 0).toNat : Int) % 12) (((hh.getD 1 0).toNat : Int) % 12) (([((((hh.getD 0 0).toNat : Int) % 12), ([(bb.getD 0 0)] : List UInt8), ())] : List (Int × (List UInt8 × Unit))) ++ ([((((hh.getD 1 0).toNat : Int) % 12), ([(bb.getD 1 0)] : List UInt8), ())] : List (Int × (List UInt8 × Unit)))) 256 = 0 ∨ cnK sec (((hh.getD 0 0).toNat : Int) % 12) (((hh.getD 1 0).toNat : Int) % 12) (([((((hh.getD 0 0).toNat : Int) % 12), ([(bb.getD 0 0)] : List UInt8), ())] : List (Int × (List UInt8 × Unit))) ++ ([((((hh.getD 1 0).toNat : Int) % 12), ([(bb.getD 1 0)] : List UInt8), ())] : List (Int × (List UInt8 × Unit)))) 256 = 1) := cnt2 ha hb hab
        rw [← hq] at hcc
        refine ⟨rfl, ⟨by show (([((((hh.getD 0 0).toNat : Int) % 12), ([(bb.getD 0 0)] : List UInt8), ())] : List (Int × (List UInt8 × Unit))) ++ ([((((hh.getD 1 0).toNat : Int) % 12), ([(bb.getD 1 0)] : List UInt8), ())] : List (Int × (List UInt8 × Unit)))).length ≤ 1048576; first | omega | assumption | (simp only [List.length_cons, List.length_nil, List.length_append, List.length_take, List.length_drop, List.length_set, List.length_replicate]; omega), by show ([sec] : List UInt8).length ≤ 1048576; first | omega | assumption | (simp only [List.length_cons, List.length_nil, List.length_append, List.length_take, List.length_drop, List.length_set, List.length_replicate]; omega)⟩, trivial, fun h6 => ?_, fun h6 => absurd (show True by simp) h6⟩
        refine ⟨fun h7 => ?_, fun h7 => ?_⟩
        · replace h7 : (ftN (([((((hh.getD 0 0).toNat : Int) % 12), ([(bb.getD 0 0)] : List UInt8), ())] : List (Int × (List UInt8 × Unit))) ++ ([((((hh.getD 1 0).toNat : Int) % 12), ([(bb.getD 1 0)] : List UInt8), ())] : List (Int × (List UInt8 × Unit)))) 2 ([sec] : List UInt8)) = 0 := h7
          refine ⟨fun h8 => ?_, fun h8 => ?_⟩
          · replace h8 : (((cnK sec (((hh.getD 0 0).toNat : Int) % 12) (((hh.getD 1 0).toNat : Int) % 12) (([((((hh.getD 0 0).toNat : Int) % 12), ([(bb.getD 0 0)] : List UInt8), ())] : List (Int × (List UInt8 × Unit))) ++ ([((((hh.getD 1 0).toNat : Int) % 12), ([(bb.getD 1 0)] : List UInt8), ())] : List (Int × (List UInt8 × Unit)))) q : Nat) : Int) = 1 ↔ ftP (([((((hh.getD 0 0).toNat : Int) % 12), ([(bb.getD 0 0)] : List UInt8), ())] : List (Int × (List UInt8 × Unit))) ++ ([((((hh.getD 1 0).toNat : Int) % 12), ([(bb.getD 1 0)] : List UInt8), ())] : List (Int × (List UInt8 × Unit)))) 2 ([sec] : List UInt8)) := h8
            exact ⟨rfl, rfl, congrArg V.b (propext ⟨fun _ => trivial, fun _ => ⟨fun g h => by have := hcc.2.1.1 h; omega, fun g => by rcases hcc.2.2 with e | e; (omega); (exact absurd (hcc.2.1.2 e) g)⟩⟩), rfl⟩
          · replace h8 : ¬ (((cnK sec (((hh.getD 0 0).toNat : Int) % 12) (((hh.getD 1 0).toNat : Int) % 12) (([((((hh.getD 0 0).toNat : Int) % 12), ([(bb.getD 0 0)] : List UInt8), ())] : List (Int × (List UInt8 × Unit))) ++ ([((((hh.getD 1 0).toNat : Int) % 12), ([(bb.getD 1 0)] : List UInt8), ())] : List (Int × (List UInt8 × Unit)))) q : Nat) : Int) = 1 ↔ ftP (([((((hh.getD 0 0).toNat : Int) % 12), ([(bb.getD 0 0)] : List UInt8), ())] : List (Int × (List UInt8 × Unit))) ++ ([((((hh.getD 1 0).toNat : Int) % 12), ([(bb.getD 1 0)] : List UInt8), ())] : List (Int × (List UInt8 × Unit)))) 2 ([sec] : List UInt8)) := h8
            exact absurd ⟨fun g => hcc.2.1.2 (by omega), fun g => by have := hcc.2.1.1 g; omega⟩ h8
        · replace h7 : ¬ ((ftN (([((((hh.getD 0 0).toNat : Int) % 12), ([(bb.getD 0 0)] : List UInt8), ())] : List (Int × (List UInt8 × Unit))) ++ ([((((hh.getD 1 0).toNat : Int) % 12), ([(bb.getD 1 0)] : List UInt8), ())] : List (Int × (List UInt8 × Unit)))) 2 ([sec] : List UInt8)) = 0) := h7
          exact absurd hcc.1 h7
    · replace h1 : ¬ ((sec % 2) = 1) := h1
      refine ⟨4, [(0, .k), (8, .k), (9, .k), (10, .k), (11, .k), (49, .k)], fun nM vs H => ∃ (q : Nat), q ≤ 256 ∧ nM = 256 - q ∧ vs = [.u8 sec, .int .i64 (((hh.getD 0 0).toNat : Int) % 12), .int .i64 (((hh.getD 1 0).toNat : Int) % 12), .own (.cons (.int .i64) (.cons .str .nil)) 3, .int .i64 ((cnK sec (((hh.getD 0 0).toNat : Int) % 12) (((hh.getD 1 0).toNat : Int) % 12) ([((((hh.getD 0 0).toNat : Int) % 12), ([(bb.getD 0 0)] : List UInt8), ())] : List (Int × (List UInt8 × Unit))) q : Nat) : Int), .int .i64 (q : Int)] ∧ H = [.row true .u8 hh, .row true .u8 bb, .row true .u8 ([(bb.getD 0 0)] : List UInt8), .row true (.cons (.int .i64) (.cons .str .nil)) ([((((hh.getD 0 0).toNat : Int) % 12), ([(bb.getD 0 0)] : List UInt8), ())] : List (Int × (List UInt8 × Unit)))], ⟨rfl, 256, 0, by omega, by omega, rfl, rfl⟩, ?_⟩
      rintro nM vs H ⟨q, hc2_0, rfl, rfl, rfl⟩
      have hcn := cnK_le sec (((hh.getD 0 0).toNat : Int) % 12) (((hh.getD 1 0).toNat : Int) % 12) ([((((hh.getD 0 0).toNat : Int) % 12), ([(bb.getD 0 0)] : List UInt8), ())] : List (Int × (List UInt8 × Unit))) q
      refine ⟨fun h9 => ?_, fun h9 => ?_⟩
      · replace h9 : (q : Int) < 256 := h9
        have hq : ((q : Int) % 256).toNat = q := by omega
        have hSp := spl2 (sec := sec) (r := (UInt8.ofNat ((q : Int) % 256).toNat)) ha hb hab
        have hl2 : (splL ([sec] : List UInt8) 2 ([(((hh.getD 0 0).toNat : Int) % 12), (((hh.getD 1 0).toNat : Int) % 12)] : List Int) ([UInt8.ofNat ((q : Int) % 256).toNat] : List UInt8)).length = 2 := hSp.llen
        refine ⟨rfl, rfl, rfl, ⟨by show ([sec] : List UInt8).length ≤ 1048576; first | omega | assumption | (simp only [List.length_cons, List.length_nil, List.length_append, List.length_take, List.length_drop, List.length_set, List.length_replicate]; omega), by show ([(((hh.getD 0 0).toNat : Int) % 12), (((hh.getD 1 0).toNat : Int) % 12)] : List Int).length ≤ 1048576; first | omega | assumption | (simp only [List.length_cons, List.length_nil, List.length_append, List.length_take, List.length_drop, List.length_set, List.length_replicate]; omega), by show ([UInt8.ofNat ((q : Int) % 256).toNat] : List UInt8).length ≤ 1048576; first | omega | assumption | (simp only [List.length_cons, List.length_nil, List.length_append, List.length_take, List.length_drop, List.length_set, List.length_replicate]; omega)⟩, fun h10 => ?_, fun h10 => ?_⟩
        · replace h10 : ¬ ((splE ([sec] : List UInt8) 2 ([(((hh.getD 0 0).toNat : Int) % 12), (((hh.getD 1 0).toNat : Int) % 12)] : List Int) ([UInt8.ofNat ((q : Int) % 256).toNat] : List UInt8)) ≠ 0) := h10
          refine ⟨fun h11 => ?_, fun h11 => ?_⟩
          · replace h11 : (((splL ([sec] : List UInt8) 2 ([(((hh.getD 0 0).toNat : Int) % 12), (((hh.getD 1 0).toNat : Int) % 12)] : List Int) ([UInt8.ofNat ((q : Int) % 256).toNat] : List UInt8)).length : Nat) : Int) ≠ 2 := h11
            omega
          · replace h11 : ¬ ((((splL ([sec] : List UInt8) 2 ([(((hh.getD 0 0).toNat : Int) % 12), (((hh.getD 1 0).toNat : Int) % 12)] : List Int) ([UInt8.ofNat ((q : Int) % 256).toNat] : List UInt8)).length : Nat) : Int) ≠ 2) := h11
            refine ⟨⟨by omega, by show ((1 : Nat) : Int) ≤ (((splL ([sec] : List UInt8) 2 ([(((hh.getD 0 0).toNat : Int) % 12), (((hh.getD 1 0).toNat : Int) % 12)] : List Int) ([UInt8.ofNat ((q : Int) % 256).toNat] : List UInt8)).length : Nat) : Int); rw [hl2]; decide⟩, ⟨by show (((splL ([sec] : List UInt8) 2 ([(((hh.getD 0 0).toNat : Int) % 12), (((hh.getD 1 0).toNat : Int) % 12)] : List Int) ([UInt8.ofNat ((q : Int) % 256).toNat] : List UInt8)).drop 0).take (([((((hh.getD 0 0).toNat : Int) % 12), ([(bb.getD 0 0)] : List UInt8), ())] : List (Int × (List UInt8 × Unit))).length - 0)).length ≤ 1048576; rw [List.length_take, List.length_drop, hl2]; omega, by show ([((((hh.getD 0 0).toNat : Int) % 12), ([(bb.getD 0 0)] : List UInt8), ())] : List (Int × (List UInt8 × Unit))).length ≤ 1048576; first | omega | assumption | (simp only [List.length_cons, List.length_nil, List.length_append, List.length_take, List.length_drop, List.length_set, List.length_replicate]; omega)⟩, fun h12 => ?_, fun h12 => ?_⟩
            · replace h12 : (((splL ([sec] : List UInt8) 2 ([(((hh.getD 0 0).toNat : Int) % 12), (((hh.getD 1 0).toNat : Int) % 12)] : List Int) ([UInt8.ofNat ((q : Int) % 256).toNat] : List UInt8)).drop 0).take (([((((hh.getD 0 0).toNat : Int) % 12), ([(bb.getD 0 0)] : List UInt8), ())] : List (Int × (List UInt8 × Unit))).length - 0)) = ([((((hh.getD 0 0).toNat : Int) % 12), ([(bb.getD 0 0)] : List UInt8), ())] : List (Int × (List UInt8 × Unit))) := h12
              have hcy := cnK_yes (show okN sec (((hh.getD 0 0).toNat : Int) % 12) (((hh.getD 1 0).toNat : Int) % 12) ([((((hh.getD 0 0).toNat : Int) % 12), ([(bb.getD 0 0)] : List UInt8), ())] : List (Int × (List UInt8 × Unit))) q = true by unfold okN; rw [decide_eq_true_eq, show UInt8.ofNat q = (UInt8.ofNat ((q : Int) % 256).toNat) by rw [hq]]; exact h12)
              refine ⟨⟨by show (-9223372036854775808 : Int) ≤ (((cnK sec (((hh.getD 0 0).toNat : Int) % 12) (((hh.getD 1 0).toNat : Int) % 12) ([((((hh.getD 0 0).toNat : Int) % 12), ([(bb.getD 0 0)] : List UInt8), ())] : List (Int × (List UInt8 × Unit))) q : Nat) : Int) + 1); omega, by show (((cnK sec (((hh.getD 0 0).toNat : Int) % 12) (((hh.getD 1 0).toNat : Int) % 12) ([((((hh.getD 0 0).toNat : Int) % 12), ([(bb.getD 0 0)] : List UInt8), ())] : List (Int × (List UInt8 × Unit))) q : Nat) : Int) + 1) ≤ (9223372036854775807 : Int); omega⟩, ⟨by show (-9223372036854775808 : Int) ≤ ((q : Int) + 1); omega, by show ((q : Int) + 1) ≤ (9223372036854775807 : Int); omega⟩, ?_⟩
              exact ⟨rfl, 256 - (q + 1), by omega, q + 1, by omega, rfl, by rw [hcy]; rfl, rfl⟩
            · replace h12 : ¬ ((((splL ([sec] : List UInt8) 2 ([(((hh.getD 0 0).toNat : Int) % 12), (((hh.getD 1 0).toNat : Int) % 12)] : List Int) ([UInt8.ofNat ((q : Int) % 256).toNat] : List UInt8)).drop 0).take (([((((hh.getD 0 0).toNat : Int) % 12), ([(bb.getD 0 0)] : List UInt8), ())] : List (Int × (List UInt8 × Unit))).length - 0)) = ([((((hh.getD 0 0).toNat : Int) % 12), ([(bb.getD 0 0)] : List UInt8), ())] : List (Int × (List UInt8 × Unit)))) := h12
              have hcy := cnK_no (show ¬ okN sec (((hh.getD 0 0).toNat : Int) % 12) (((hh.getD 1 0).toNat : Int) % 12) ([((((hh.getD 0 0).toNat : Int) % 12), ([(bb.getD 0 0)] : List UInt8), ())] : List (Int × (List UInt8 × Unit))) q = true by unfold okN; rw [decide_eq_true_eq, show UInt8.ofNat q = (UInt8.ofNat ((q : Int) % 256).toNat) by rw [hq]]; exact h12)
              refine ⟨⟨by show (-9223372036854775808 : Int) ≤ ((q : Int) + 1); omega, by show ((q : Int) + 1) ≤ (9223372036854775807 : Int); omega⟩, ?_⟩
              exact ⟨rfl, 256 - (q + 1), by omega, q + 1, by omega, rfl, by rw [hcy]; rfl, rfl⟩
        · replace h10 : (splE ([sec] : List UInt8) 2 ([(((hh.getD 0 0).toNat : Int) % 12), (((hh.getD 1 0).toNat : Int) % 12)] : List Int) ([UInt8.ofNat ((q : Int) % 256).toNat] : List UInt8)) ≠ 0 := h10
          exact absurd hSp.e h10
      · replace h9 : ¬ ((q : Int) < 256) := h9
        have hq : q = 256 := by omega
        have hcc : ftN ([((((hh.getD 0 0).toNat : Int) % 12), ([(bb.getD 0 0)] : List UInt8), ())] : List (Int × (List UInt8 × Unit))) 2 [sec] = 0 ∧ (ftP ([((((hh.getD 0 0).toNat : Int) % 12), ([(bb.getD 0 0)] : List UInt8), ())] : List (Int × (List UInt8 × Unit))) 2 [sec] ↔ cnK sec (((hh.getD 0 0).toNat : Int) % 12) (((hh.getD 1 0).toNat : Int) % 12) ([((((hh.getD 0 0).toNat : Int) % 12), ([(bb.getD 0 0)] : List UInt8), ())] : List (Int × (List UInt8 × Unit))) 256 = 1) ∧ cnK sec (((hh.getD 0 0).toNat : Int) % 12) (((hh.getD 1 0).toNat : Int) % 12) ([((((hh.getD 0 0).toNat : Int) % 12), ([(bb.getD 0 0)] : List UInt8), ())] : List (Int × (List UInt8 × Unit))) 256 = 1 := cnt1 ha hb hab
        rw [← hq] at hcc
        refine ⟨rfl, ⟨by show ([((((hh.getD 0 0).toNat : Int) % 12), ([(bb.getD 0 0)] : List UInt8), ())] : List (Int × (List UInt8 × Unit))).length ≤ 1048576; first | omega | assumption | (simp only [List.length_cons, List.length_nil, List.length_append, List.length_take, List.length_drop, List.length_set, List.length_replicate]; omega), by show ([sec] : List UInt8).length ≤ 1048576; first | omega | assumption | (simp only [List.length_cons, List.length_nil, List.length_append, List.length_take, List.length_drop, List.length_set, List.length_replicate]; omega)⟩, trivial, fun h13 => ?_, fun h13 => absurd (show True by simp) h13⟩
        refine ⟨fun h14 => ?_, fun h14 => ?_⟩
        · replace h14 : (ftN ([((((hh.getD 0 0).toNat : Int) % 12), ([(bb.getD 0 0)] : List UInt8), ())] : List (Int × (List UInt8 × Unit))) 2 ([sec] : List UInt8)) = 0 := h14
          refine ⟨fun h15 => ?_, fun h15 => ?_⟩
          · replace h15 : (((cnK sec (((hh.getD 0 0).toNat : Int) % 12) (((hh.getD 1 0).toNat : Int) % 12) ([((((hh.getD 0 0).toNat : Int) % 12), ([(bb.getD 0 0)] : List UInt8), ())] : List (Int × (List UInt8 × Unit))) q : Nat) : Int) = 1 ↔ ftP ([((((hh.getD 0 0).toNat : Int) % 12), ([(bb.getD 0 0)] : List UInt8), ())] : List (Int × (List UInt8 × Unit))) 2 ([sec] : List UInt8)) := h15
            exact ⟨rfl, rfl, congrArg V.b (propext ⟨fun _ => trivial, fun _ => ⟨fun g h => by have := hcc.2.2; omega, fun g => absurd (hcc.2.1.2 hcc.2.2) g⟩⟩), rfl⟩
          · replace h15 : ¬ (((cnK sec (((hh.getD 0 0).toNat : Int) % 12) (((hh.getD 1 0).toNat : Int) % 12) ([((((hh.getD 0 0).toNat : Int) % 12), ([(bb.getD 0 0)] : List UInt8), ())] : List (Int × (List UInt8 × Unit))) q : Nat) : Int) = 1 ↔ ftP ([((((hh.getD 0 0).toNat : Int) % 12), ([(bb.getD 0 0)] : List UInt8), ())] : List (Int × (List UInt8 × Unit))) 2 ([sec] : List UInt8)) := h15
            exact absurd ⟨fun g => hcc.2.1.2 (by omega), fun g => by have := hcc.2.1.1 g; omega⟩ h15
        · replace h14 : ¬ ((ftN ([((((hh.getD 0 0).toNat : Int) % 12), ([(bb.getD 0 0)] : List UInt8), ())] : List (Int × (List UInt8 × Unit))) 2 ([sec] : List UInt8)) = 0) := h14
          exact absurd hcc.1 h14
end Go.Proofs.YtakbedmeieeekaaDoor.S26

namespace Go.Proofs.YtakbedmeieeekaaDoor
open Go Go.Proofs.YtakbedmeieeekaaDoor.Vc Go.Proofs Go.Proofs.YtakbedmeieeekaaDoor.S26 Go.ChangeShapes Go.WideShapes Go.ChangeAt Go.RowKit
set_option maxRecDepth 100000
set_option linter.unusedVariables false
namespace Cd.splitCountsExactly
open Go.Proofs.YtakbedmeieeekaaDoor.Cd
theorem deep0 : Deep Tryd.prog .u8 (.inl 5) := Tryd.underlying5
theorem rec0 : Tryd.prog.readableRec 5 = true := by kernel_rfl
theorem lt0 : 5 < Tryd.prog.types.size := of_decide_eq_true (by kernel_rfl)
theorem deep1 : Deep Tryd.prog (.arr 2 .u8) (.inl 68) := ⟨5, Tryd.underlying68, by kernel_rfl, by kernel_rfl, Tryd.underlying5⟩
theorem rec1 : Tryd.prog.readableRec 68 = true := by kernel_rfl
theorem lt1 : 68 < Tryd.prog.types.size := of_decide_eq_true (by kernel_rfl)
theorem deep2 : Deep Tryd.prog (.arr 2 .u8) (.inl 68) := ⟨5, Tryd.underlying68, by kernel_rfl, by kernel_rfl, Tryd.underlying5⟩
theorem rec2 : Tryd.prog.readableRec 68 = true := by kernel_rfl
theorem lt2 : 68 < Tryd.prog.types.size := of_decide_eq_true (by kernel_rfl)
theorem globs {W : World} (h : laidMetH Tryd.prog Rows.splitCountsExactlyUptoRow.laid W) : ∀ g x, lk G6 g = some x → VRel (c0 W) [] W x (.pointer (some ⟨g, 0, none⟩)) := fun g x hx => by
  have hg : Tryd.prog.globalNamed "quietus/gf.high" = some 0 := by kernel_rfl
  have ht : Lib.TabIs Tryd.prog W "quietus/gf.high" .u8 [0, 29, 58, 39, 116, 105, 78, 83, 232, 245, 210, 207, 156, 129, 166, 187] := Lib.tabIs_of_head (rest := []) hg (by kernel_rfl) Tryd.underlying131 Tryd.underlying5 (by kernel_rfl) (by kernel_rfl) h
  have key : ∀ i, i < 16 → ([0, 29, 58, 39, 116, 105, 78, 83, 232, 245, 210, 207, 156, 129, 166, 187] : List Int).getD i 0 = ((hi.getD i 0).toNat : Int) := by decide
  have hc : ∀ i, i < hi.length → W.cell? ⟨0, i, none⟩ = some (.int .u8 ((hi.getD i 0).toNat : Int)) := fun i hi' => by
    have := ht.cell hg i hi'
    rwa [key i hi'] at this
  unfold G6 lk at hx
  cases hb : Nat.beq 0 g with
  | false => rw [hb] at hx; simp [lk] at hx
  | true =>
    rw [hb] at hx
    simp only [cond_true, Option.some.injEq] at hx
    have := beq_ok hb
    subst this hx
    exact tab_ok (spot_none (hc 0 (by decide))).2 hc rfl
theorem contract (H : Type) (enc : TypeId × Value → H) (W : World) (base : Nat) (args : Array Value) (ds gs : List (DataW H)) (before : List MemPlace)
    (hval : ∀ (j : Nat) t v, Tryd.f7.params[j]? = some t → args[j]? = some v → Value.okWide Tryd.prog W .any base t v)
    (hW : DataW.Whole enc Tryd.prog Tryd.f7.params.toList Rows.splitCountsExactlySpec.vars false W args.toList ds gs before) (hc : Rows.uptoSmall H (ds ++ gs) = true) (hL : laidMetH Tryd.prog Rows.splitCountsExactlyUptoRow.laid W) :
    Calls Tryd.prog 7 args W fun e W' => ∃ v, e = .returned v ∧ Rows.splitCountsExactlySpec.post enc Tryd.prog Tryd.f7 false true false false W args v W' := by
  have hW' := hW
  obtain ⟨p, q, hA0, hV, rfl, hfz, hnd⟩ := hW
  have hA : DataW.TrodAll enc Tryd.prog W 0 (fun _ => true) true Tryd.f7.params.toList args.toList ds p := hA0
  rw [Tryd.params7] at hA hval
  obtain ⟨v0, vs0, d0, ds0, p0, q0, hargs, rfl, rfl, h0, r0⟩ := trodAll_cons hA
  obtain ⟨v1, vs1, d1, ds1, p1, q1, rfl, rfl, rfl, h1, r1⟩ := trodAll_cons r0
  obtain ⟨v2, vs2, d2, ds2, p2, q2, rfl, rfl, rfl, h2, r2⟩ := trodAll_cons r1
  obtain ⟨rfl, rfl, rfl⟩ := trodAll_nil r2
  obtain rfl : args = #[v0, v1, v2] := by cases args; simp_all
  obtain ⟨rfl, rfl⟩ := trodVars_none hV
  obtain ⟨x0, rel0, w0, wf0⟩ := arg_ok (bk := Rows.uptoBulk) bulk deep0 (hval 0 5 v0 rfl rfl) h0
  obtain ⟨x1, rel1, w1, wf1⟩ := arg_ok (bk := Rows.uptoBulk) bulk deep1 (hval 1 68 v1 rfl rfl) h1
  obtain ⟨x2, rel2, w2, wf2⟩ := arg_ok (bk := Rows.uptoBulk) bulk deep2 (hval 2 68 v2 rfl rfl) h2
  have hsum : Rows.uptoBulkAll [d0, d1, d2] ≤ 1048576 := by simpa [Rows.uptoSmall] using hc
  simp only [Rows.uptoBulkAll] at hsum
  have hlt : ∀ x ∈ p0 ++ p1 ++ p2, x.block < W.heap.size := fun x hx => by simpa using hW'.lt x (by simpa using hx)
  refine (law_ok (kSan.frz [1000002]) rfl Tryd.func7 (.cons _ _ _ _ rel0 (.cons _ _ _ _ rel1 (.cons _ _ _ _ rel2 (VRels.nil)))) (globs hL) (bLCnt x0 x1 x2 wf1.1 wf2.1)).mono fun e W' ⟨he, hb⟩ => ?_
  subst he
  exact ⟨_, rfl, post_same (pa := (p0 ++ (p1 ++ (p2 ++ [])))) (pv := []) hW' (fun _ _ _ => trodAll_cons_mk (shut_bool Tryd.underlying4 _) trodAll_mk0) (fun sp hsp => trodAll_cons_mk (WideElems.Trod_stays laidOut rec0 lt0 h0 (fun x hx => hb.same (hlt x (by simp [hx]))) (fun x hx => hsp x (by simp [hx]))) (trodAll_cons_mk (WideElems.Trod_stays laidOut rec1 lt1 h1 (fun x hx => hb.same (hlt x (by simp [hx]))) (fun x hx => hsp x (by simp [hx]))) (trodAll_cons_mk (WideElems.Trod_stays laidOut rec2 lt2 h2 (fun x hx => hb.same (hlt x (by simp [hx]))) (fun x hx => hsp x (by simp [hx]))) (trodAll_mk0)))) (fun _ _ => rfl) rfl hb (ok_one (by kernel_rfl) rfl (okWide_bool_mk Tryd.underlying4 _))⟩
noncomputable def laidWorld (os : Os) : World :=
  { World.holding Tryd.prog os ⟨#[], #[], []⟩ with heap := (World.holding Tryd.prog os ⟨#[], #[], []⟩).heap.modify 0 fun
      | .cells _ t frozen => .cells #[.int .u8 0, .int .u8 29, .int .u8 58, .int .u8 39, .int .u8 116, .int .u8 105, .int .u8 78, .int .u8 83, .int .u8 232, .int .u8 245, .int .u8 210, .int .u8 207, .int .u8 156, .int .u8 129, .int .u8 166, .int .u8 187] t frozen
      | o => o }
theorem laid_met (os : Os) : laidMet Tryd.prog Rows.splitCountsExactlyUptoRow.laid ((laidWorld os).forCall (fun _ _ => 0) ⟨#[], #[.int .u8 0, .agg #[.int .u8 0, .int .u8 0], .agg #[.int .u8 0, .int .u8 0]], []⟩).memory :=
  laidMet_of_run' 8 (by kernel_rfl) (by kernel_rfl)
theorem reads (os : Os) {H : Type} (enc : TypeId × Value → H) : ∃ places, DataW.whole enc Tryd.prog ((laidWorld os).forCall (fun _ _ => 0) ⟨#[], #[.int .u8 0, .agg #[.int .u8 0, .int .u8 0], .agg #[.int .u8 0, .int .u8 0]], []⟩).memory Tryd.f7.params.toList Rows.splitCountsExactlySpec.vars false (#[.int .u8 0, .agg #[.int .u8 0, .int .u8 0], .agg #[.int .u8 0, .int .u8 0]] : Array Value).toList 8 = some ([.lit (.int .u8 0), .agg [.lit (.int .u8 0), .lit (.int .u8 0)], .agg [.lit (.int .u8 0), .lit (.int .u8 0)]], [], places) :=
  ⟨[], by kernel_rfl⟩
theorem liftedUpto (os : Os) (started : os.Started) (H : Type) (enc : TypeId × Value → H) (F : Stop.Interp) :
    ReturnsInHanded {} Tryd.checked os 7 .any ((Rows.OpenSpec.upto Rows.splitCountsExactlySpec).preRow enc Tryd.prog Tryd.f7 Rows.splitCountsExactlyUptoRow.domain false Rows.splitCountsExactlyUptoRow.laid) (((Rows.OpenSpec.upto Rows.splitCountsExactlySpec).at F).post enc Tryd.prog Tryd.f7 false true false false) := by
  obtain ⟨places, hx⟩ := reads os enc
  refine returnsInHanded_of_row (C := Tryd.checked) (s := Rows.OpenSpec.upto Rows.splitCountsExactlySpec) own started (by kernel_rfl) Tryd.func7
    (witness_row_at (enc := enc) (C := Tryd.checked) false (laidWorld os) #[.int .u8 0, .agg #[.int .u8 0, .int .u8 0], .agg #[.int .u8 0, .int .u8 0]] rfl (by kernel_rfl) (by kernel_rfl) (by kernel_rfl)
      (OpenSpec.preRow_of_cond 8 hx (by kernel_rfl) (fun k hk => by cases hk; kernel_rfl) (by kernel_rfl) (laid_met os))) ?_
  intro W base args ds gs before hval hW _ hcond _ hL _ _
  exact contract H enc W base args ds gs before hval hW (hcond _ rfl) hL
theorem saidUpto : Rows.SplitCountsExactlyUptoSaid :=
  OpenClaim.holds_of_cond 7 Tryd.f7 rfl rfl rfl rfl rfl rfl rfl ⟨rfl, rfl, rfl, rfl, rfl⟩ rfl rfl rfl rfl rfl (by kernel_rfl) Tryd.func7 (by kernel_rfl)
    (of_decide_eq_true (by kernel_rfl)) (by unfold Func.isWrapper; first | (rw [if_pos (by decide +kernel)]; kernel_rfl) | (rw [if_neg (by decide +kernel)]; exact ⟨rfl, rfl⟩))
    (fun os started H enc _ F => by rw [OpenClaim.pre_eq_preRow]; exact liftedUpto os started H enc F)
theorem plain (f : FuncId) (fn : Func) (hf : Tryd.pinned.checked.prog.funcNamed "quietus/quietuslaw26.SplitCountsExactly" = some f) (hfn : Tryd.pinned.checked.prog.funcs[f]? = some fn) :
    false = Tryd.pinned.checked.prog.looks [] ∧ ∀ (j : Nat) t, fn.params[j]? = some t → Tryd.pinned.checked.prog.wantsStandIn t = false := by
  obtain rfl : f = 7 := Option.some.inj ((show Tryd.prog.funcNamed "quietus/quietuslaw26.SplitCountsExactly" = some 7 by kernel_rfl).symm.trans hf) |>.symm
  obtain rfl : fn = Tryd.f7 := (Option.some.inj (Tryd.func7.symm.trans hfn)).symm
  refine ⟨by kernel_rfl, fun j t ht => ?_⟩
  rw [Tryd.params7] at ht
  have hm := Array.mem_of_getElem? ht
  simp only [List.mem_toArray, List.mem_cons, List.not_mem_nil, or_false] at hm
  rcases hm with rfl | rfl | rfl
  · exact (show Tryd.prog.wantsStandIn 5 = false by kernel_rfl)
  · exact (show Tryd.prog.wantsStandIn 68 = false by kernel_rfl)
  · exact (show Tryd.prog.wantsStandIn 68 = false by kernel_rfl)
theorem cardUpto : Rows.SplitCountsExactlyUptoCardSaid :=
  Claim7.holds_tied_plain_at .later [] _ _ _ _ saidUpto (fun _ h => by cases h) (by kernel_rfl) (fun _ h => by cases h) splitCountsExactlyUpto_row_tie rfl ⟨rfl, rfl⟩ (by kernel_rfl) rfl plain (by kernel_rfl)
end Cd.splitCountsExactly
theorem splitCountsExactly_holds : Rows.SplitCountsExactlyUptoCardSaid := Cd.splitCountsExactly.cardUpto
end Go.Proofs.YtakbedmeieeekaaDoor

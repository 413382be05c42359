/- Texts of this claim: S38.L7. -/
import Derived.Test.YtgljcfnplkcfhaaS4
set_option linter.unusedVariables false
set_option linter.unusedSimpArgs false
namespace Go.Proofs.Ytgljcfnplkcfhaa.S38
open Go Go.Proofs.Ytgljcfnplkcfhaa.Vc Go.Proofs
set_option maxRecDepth 100000
set_option linter.unusedVariables false

noncomputable def sLMore : List V → Option (Prop × V × List Blk)
  | [.sl false (.cons (.int .i64) (.cons (.int .i64) (.cons (.int .i64) (.cons (.sl (.int .i64)) (.cons (.int .i64) (.cons (.int .i64) (.cons (.int .i64) (.cons (.int .i64) (.cons (.int .i64) (.cons (.int .i64) .nil)))))))))) l, .dat false (.arr 3 (.int .i64)) nu, .dat false (.arr 2 (.cons (.int .i64) (.cons (.sl (.cons (.int .i64) (.cons (.int .i64) .nil))) .nil))) gs] => some (l.length ≤ 1048576 ∧ (∀ a ∈ l, a.2.2.2.1.length ≤ 1048576) ∧ nu.length = 3 ∧ gs.length = 2 ∧ (∀ s ∈ gs, s.2.1.length ≤ 1048576), .b True, [])
  | _ => none
set_option maxHeartbeats 8000000 in
theorem bLMore (l : List (Int × (Int × (Int × (List Int × (Int × (Int × (Int × (Int × (Int × (Int × Unit))))))))))) (nu : List Int) (gs : List (Int × (List (Int × (Int × Unit)) × Unit))) (hp0 : l.length ≤ 1048576) (hp1 : (∀ a ∈ l, a.2.2.2.1.length ≤ 1048576)) (hp2 : nu.length = 3) (hp3 : gs.length = 2) (hp4 : (∀ s ∈ gs, s.2.1.length ≤ 1048576)) : bodyP (En CRCk tys [] QOfs [1000002, 1000004, 7000000]) Try.f14 [.k] [.sl false (.cons (.int .i64) (.cons (.int .i64) (.cons (.int .i64) (.cons (.sl (.int .i64)) (.cons (.int .i64) (.cons (.int .i64) (.cons (.int .i64) (.cons (.int .i64) (.cons (.int .i64) (.cons (.int .i64) .nil)))))))))) l, .dat false (.arr 3 (.int .i64)) nu, .dat false (.arr 2 (.cons (.int .i64) (.cons (.sl (.cons (.int .i64) (.cons (.int .i64) .nil))) .nil))) gs] (.b True) [] := by
 refine ⟨⟨rfl, by first | assumption | rfl | simp⟩, ⟨rfl, by first | assumption | rfl | simp⟩, by kernel_rfl, ⟨by show (0 : Int) ≤ 0; omega, by show 0 < (3 : Int); omega, by first | assumption | rfl | simp⟩, ⟨by show (0 : Int) ≤ 1; omega, by show 1 < (3 : Int); omega, by first | assumption | rfl | simp⟩, ⟨by show (0 : Int) ≤ 2; omega, by show 2 < (3 : Int); omega, by first | assumption | rfl | simp⟩, by kernel_rfl, ⟨by show (0 : Int) ≤ 0; omega, by show 0 < (2 : Int); omega, by first | assumption | rfl | simp⟩, ⟨by show (0 : Int) ≤ 1; omega, by show 1 < (2 : Int); omega, by first | assumption | rfl | simp⟩, ⟨rfl, rfl, rfl, Nat.le_of_ble_eq_true rfl⟩, ⟨rfl, rfl, rfl, Nat.le_of_ble_eq_true rfl⟩, rfl, by show l.length ≤ 1048576; first | omega | assumption, fun h0 => ?_, fun h0 => ?_⟩
 ·replace h0 : ¬ (¬ (fewA l 30)) := h0
  refine ⟨⟨by show l.length ≤ 1048576; first | omega | assumption, by first | assumption | simp⟩, fun h1 => ?_, fun h1 => ?_⟩
  ·replace h1 : ¬ ((chkL l) ≠ 0) := h1
   refine ⟨fun h2 => ?_, fun h2 => ?_⟩
   ·replace h2 : ¬ (10 < (((gs.getD 0 (0, ([], ()))).2.1.length : Nat) : Int)) := h2
    refine ⟨fun h3 => ?_, fun h3 => ?_⟩
    ·replace h3 : 10 < (((gs.getD 1 (0, ([], ()))).2.1.length : Nat) : Int) := h3
     refine ⟨trivial, ?_⟩
     exact ⟨rfl, rfl, congrArg V.b (propext ⟨fun _ => trivial, fun _ => by first | trivial | rfl⟩), rfl⟩
    ·replace h3 : ¬ (10 < (((gs.getD 1 (0, ([], ()))).2.1.length : Nat) : Int)) := h3
     refine ⟨by kernel_rfl, .inr ?_⟩
     refine ⟨⟨rfl, rfl⟩, by show ([] : List (Int × (Int × Unit))).length + (gs.getD 0 (0, ([], ()))).2.1.length ≤ 1000000000; simp only [List.length_cons, List.length_nil, List.length_append]; omega, ⟨rfl, rfl⟩, by show (([] : List (Int × (Int × Unit))) ++ (gs.getD 0 (0, ([], ()))).2.1).length + (gs.getD 1 (0, ([], ()))).2.1.length ≤ 1000000000; simp only [List.length_cons, List.length_nil, List.length_append]; omega, ⟨rfl, rfl, rfl, Nat.le_of_ble_eq_true rfl⟩, rfl, ⟨by show l.length ≤ 1048576; first | omega | assumption, by first | assumption | simp, by show (gs.getD 0 (0, ([], ()))).2.1.length ≤ 1048576; first | omega | assumption | (simp only [List.length_cons, List.length_nil, List.length_append, List.length_take, List.length_drop, List.length_set, List.length_replicate]; omega)⟩, rfl, ⟨by show l.length ≤ 1048576; first | omega | assumption, by first | assumption | simp, by show ((([] : List (Int × (Int × Unit))) ++ (gs.getD 0 (0, ([], ()))).2.1) ++ (gs.getD 1 (0, ([], ()))).2.1).length ≤ 1048576; first | omega | assumption | (simp only [List.length_cons, List.length_nil, List.length_append, List.length_take, List.length_drop, List.length_set, List.length_replicate]; omega)⟩, rfl, rfl, rfl, ⟨by show l.length ≤ 1048576; first | omega | assumption, by first | assumption | simp, by show (gs.getD 0 (0, ([], ()))).2.1.length ≤ 1048576; first | omega | assumption | (simp only [List.length_cons, List.length_nil, List.length_append, List.length_take, List.length_drop, List.length_set, List.length_replicate]; omega)⟩, rfl, rfl, rfl, ⟨by show l.length ≤ 1048576; first | omega | assumption, by first | assumption | simp, by show ((([] : List (Int × (Int × Unit))) ++ (gs.getD 0 (0, ([], ()))).2.1) ++ (gs.getD 1 (0, ([], ()))).2.1).length ≤ 1048576; first | omega | assumption | (simp only [List.length_cons, List.length_nil, List.length_append, List.length_take, List.length_drop, List.length_set, List.length_replicate]; omega)⟩, fun h4 => ?_, fun h4 => ?_⟩
     ·replace h4 : (hasE l (gs.getD 0 (0, ([], ()))).1 (gs.getD 0 (0, ([], ()))).2.1) = 0 := h4
      refine ⟨fun h5 => ?_, fun h5 => ?_⟩
      ·replace h5 : (hasE l (iOr .i64 (gs.getD 0 (0, ([], ()))).1 (gs.getD 1 (0, ([], ()))).1) ((([] : List (Int × (Int × Unit))) ++ (gs.getD 0 (0, ([], ()))).2.1) ++ (gs.getD 1 (0, ([], ()))).2.1)) = 0 := h5
       have w1 := hasL_le l (gs.getD 0 (0, ([], ()))).1 (gs.getD 0 (0, ([], ()))).2.1
       have w2 := hasL_le l (iOr .i64 (gs.getD 0 (0, ([], ()))).1 (gs.getD 1 (0, ([], ()))).1) ((([] : List (Int × (Int × Unit))) ++ (gs.getD 0 (0, ([], ()))).2.1) ++ (gs.getD 1 (0, ([], ()))).2.1)
       refine ⟨8, [(0, .k), (7, .k), (10, .k), (15, .k), (17, .k), (18, .k), (19, .k), (20, .k), (107, .k), (108, .k), (109, .k)], fun nM vs H => ∃ (k : Nat), k ≤ (hasL l (gs.getD 0 (0, ([], ()))).1 (gs.getD 0 (0, ([], ()))).2.1).length ∧ nM = (hasL l (gs.getD 0 (0, ([], ()))).1 (gs.getD 0 (0, ([], ()))).2.1).length - k ∧ vs = [.sl false (.cons (.int .i64) (.cons (.int .i64) (.cons (.int .i64) (.cons (.sl (.int .i64)) (.cons (.int .i64) (.cons (.int .i64) (.cons (.int .i64) (.cons (.int .i64) (.cons (.int .i64) (.cons (.int .i64) .nil)))))))))) l, .int .i64 (nu.getD 0 0), .ptr 2 1 0 0, .own (.int .i64) 7, .b (tolT l (nu.getD 0 0) (nu.getD 1 0) (gs.getD 0 (0, ([], ()))).1 (gs.getD 0 (0, ([], ()))).2.1 = true), .int .i64 (tolE l (nu.getD 0 0) (nu.getD 1 0) (gs.getD 0 (0, ([], ()))).1 (gs.getD 0 (0, ([], ()))).2.1), .b (tolT l (nu.getD 0 0) (min (nu.getD 1 0) (nu.getD 2 0)) (iOr .i64 (gs.getD 0 (0, ([], ()))).1 (gs.getD 1 (0, ([], ()))).1) ((([] : List (Int × (Int × Unit))) ++ (gs.getD 0 (0, ([], ()))).2.1) ++ (gs.getD 1 (0, ([], ()))).2.1) = true), .int .i64 (tolE l (nu.getD 0 0) (min (nu.getD 1 0) (nu.getD 2 0)) (iOr .i64 (gs.getD 0 (0, ([], ()))).1 (gs.getD 1 (0, ([], ()))).1) ((([] : List (Int × (Int × Unit))) ++ (gs.getD 0 (0, ([], ()))).2.1) ++ (gs.getD 1 (0, ([], ()))).2.1)), .own (.int .i64) 6, .int .i64 (((hasL l (gs.getD 0 (0, ([], ()))).1 (gs.getD 0 (0, ([], ()))).2.1).length : Nat) : Int), .int .i64 (k : Int)] ∧ H = [.row true (.int .i64) nu, .row false (.cons (.int .i64) (.cons (.sl (.cons (.int .i64) (.cons (.int .i64) .nil))) .nil)) gs, .cells [.int .i64 (gs.getD 0 (0, ([], ()))).1, .sl false (.cons (.int .i64) (.cons (.int .i64) .nil)) (gs.getD 0 (0, ([], ()))).2.1], .cells [.int .i64 (gs.getD 1 (0, ([], ()))).1, .sl false (.cons (.int .i64) (.cons (.int .i64) .nil)) (gs.getD 1 (0, ([], ()))).2.1], .cells [.int .i64 (iOr .i64 (gs.getD 0 (0, ([], ()))).1 (gs.getD 1 (0, ([], ()))).1), .own (.cons (.int .i64) (.cons (.int .i64) .nil)) 5], .row true (.cons (.int .i64) (.cons (.int .i64) .nil)) ((([] : List (Int × (Int × Unit))) ++ (gs.getD 0 (0, ([], ()))).2.1) ++ (gs.getD 1 (0, ([], ()))).2.1), .row true (.int .i64) (hasL l (gs.getD 0 (0, ([], ()))).1 (gs.getD 0 (0, ([], ()))).2.1), .row true (.int .i64) (hasL l (iOr .i64 (gs.getD 0 (0, ([], ()))).1 (gs.getD 1 (0, ([], ()))).1) ((([] : List (Int × (Int × Unit))) ++ (gs.getD 0 (0, ([], ()))).2.1) ++ (gs.getD 1 (0, ([], ()))).2.1))], ⟨rfl, (hasL l (gs.getD 0 (0, ([], ()))).1 (gs.getD 0 (0, ([], ()))).2.1).length, 0, by omega, by omega, rfl, rfl⟩, ?_⟩
       rintro nM vs H ⟨k, hc1_0, rfl, rfl, rfl⟩
       refine ⟨fun h6 => ?_, fun h6 => ?_⟩
       ·replace h6 : (k : Int) < (((hasL l (gs.getD 0 (0, ([], ()))).1 (gs.getD 0 (0, ([], ()))).2.1).length : Nat) : Int) := h6
        refine ⟨⟨by show (0 : Int) ≤ (k : Int); omega, by show (k : Int) < ((hasL l (gs.getD 0 (0, ([], ()))).1 (gs.getD 0 (0, ([], ()))).2.1).length : Int); omega⟩, rfl, by show (hasL l (iOr .i64 (gs.getD 0 (0, ([], ()))).1 (gs.getD 1 (0, ([], ()))).1) ((([] : List (Int × (Int × Unit))) ++ (gs.getD 0 (0, ([], ()))).2.1) ++ (gs.getD 1 (0, ([], ()))).2.1)).length ≤ 1048576; first | omega | assumption | (simp only [List.length_cons, List.length_nil, List.length_append, List.length_take, List.length_drop, List.length_set, List.length_replicate]; omega), fun h7 => absurd h7 (show ¬ (¬ (((hasL l (gs.getD 0 (0, ([], ()))).1 (gs.getD 0 (0, ([], ()))).2.1).getD k 0) ∈ (hasL l (iOr .i64 (gs.getD 0 (0, ([], ()))).1 (gs.getD 1 (0, ([], ()))).1) ((([] : List (Int × (Int × Unit))) ++ (gs.getD 0 (0, ([], ()))).2.1) ++ (gs.getD 1 (0, ([], ()))).2.1)))) by exact fun h => h (has_more h4 h5 (getD_mem 0 _ k (by omega)))), fun h7 => ?_⟩
        refine ⟨⟨by show (-9223372036854775808 : Int) ≤ ((k : Int) + 1); omega, by show ((k : Int) + 1) ≤ (9223372036854775807 : Int); omega⟩, ?_⟩
        exact ⟨rfl, (hasL l (gs.getD 0 (0, ([], ()))).1 (gs.getD 0 (0, ([], ()))).2.1).length - (k + 1), by omega, k + 1, by omega, rfl, rfl, rfl⟩
       ·replace h6 : ¬ ((k : Int) < (((hasL l (gs.getD 0 (0, ([], ()))).1 (gs.getD 0 (0, ([], ()))).2.1).length : Nat) : Int)) := h6
        refine ⟨fun h8 => ?_, fun h8 => ?_⟩
        ·replace h8 : (tolE l (nu.getD 0 0) (nu.getD 1 0) (gs.getD 0 (0, ([], ()))).1 (gs.getD 0 (0, ([], ()))).2.1) = 0 := h8
         refine ⟨fun h9 => ?_, fun h9 => ?_⟩
         ·replace h9 : (tolE l (nu.getD 0 0) (min (nu.getD 1 0) (nu.getD 2 0)) (iOr .i64 (gs.getD 0 (0, ([], ()))).1 (gs.getD 1 (0, ([], ()))).1) ((([] : List (Int × (Int × Unit))) ++ (gs.getD 0 (0, ([], ()))).2.1) ++ (gs.getD 1 (0, ([], ()))).2.1)) = 0 := h9
          refine ⟨fun h10 => ?_, fun h10 => ?_⟩
          ·replace h10 : tolT l (nu.getD 0 0) (nu.getD 1 0) (gs.getD 0 (0, ([], ()))).1 (gs.getD 0 (0, ([], ()))).2.1 = true := h10
           refine ⟨fun h11 => absurd h11 (show ¬ (¬ (tolT l (nu.getD 0 0) (min (nu.getD 1 0) (nu.getD 2 0)) (iOr .i64 (gs.getD 0 (0, ([], ()))).1 (gs.getD 1 (0, ([], ()))).1) ((([] : List (Int × (Int × Unit))) ++ (gs.getD 0 (0, ([], ()))).2.1) ++ (gs.getD 1 (0, ([], ()))).2.1) = true)) by exact fun h => h (tol_more (by assumption) (by assumption) (by assumption))), fun h11 => ?_⟩
           refine ⟨fun h12 => ?_, fun h12 => absurd h12 (show ¬ ((tolE l (nu.getD 0 0) (nu.getD 1 0) (gs.getD 0 (0, ([], ()))).1 (gs.getD 0 (0, ([], ()))).2.1) ≠ 0) by first | omega | assumption | simp_all)⟩
           refine ⟨fun h13 => ?_, fun h13 => absurd h13 (show ¬ (¬ (tolT l (nu.getD 0 0) (nu.getD 1 0) (gs.getD 0 (0, ([], ()))).1 (gs.getD 0 (0, ([], ()))).2.1 = true)) by first | omega | assumption | simp_all)⟩
           refine ⟨fun h14 => ?_, fun h14 => ?_⟩
           ·replace h14 : (gs.getD 0 (0, ([], ()))).1 ≠ 0 := h14
            refine ⟨trivial, ?_⟩
            exact ⟨rfl, rfl, congrArg V.b (propext ⟨fun _ => trivial, fun _ => by first | trivial | rfl⟩), rfl⟩
           ·replace h14 : ¬ ((gs.getD 0 (0, ([], ()))).1 ≠ 0) := h14
            refine ⟨8, [(0, .k), (7, .k), (144, .k), (145, .k), (146, .k)], fun nM vs H => ∃ (k : Nat), k ≤ (gs.getD 0 (0, ([], ()))).2.1.length ∧ (∀ x ∈ (gs.getD 0 (0, ([], ()))).2.1.take k, ¬ (askE l (nu.getD 0 0) x.2.1 0 1000000 = 0 ∧ 0 < (((atL l (nu.getD 0 0) x.2.1).length : Nat) : Int))) ∧ nM = (gs.getD 0 (0, ([], ()))).2.1.length - k ∧ vs = [.sl false (.cons (.int .i64) (.cons (.int .i64) (.cons (.int .i64) (.cons (.sl (.int .i64)) (.cons (.int .i64) (.cons (.int .i64) (.cons (.int .i64) (.cons (.int .i64) (.cons (.int .i64) (.cons (.int .i64) .nil)))))))))) l, .int .i64 (nu.getD 0 0), .sl false (.cons (.int .i64) (.cons (.int .i64) .nil)) (gs.getD 0 (0, ([], ()))).2.1, .int .i64 (((gs.getD 0 (0, ([], ()))).2.1.length : Nat) : Int), .int .i64 (k : Int)] ∧ H = [.row true (.int .i64) nu, .row false (.cons (.int .i64) (.cons (.sl (.cons (.int .i64) (.cons (.int .i64) .nil))) .nil)) gs, .cells [.int .i64 (gs.getD 0 (0, ([], ()))).1, .sl false (.cons (.int .i64) (.cons (.int .i64) .nil)) (gs.getD 0 (0, ([], ()))).2.1], .cells [.int .i64 (gs.getD 1 (0, ([], ()))).1, .sl false (.cons (.int .i64) (.cons (.int .i64) .nil)) (gs.getD 1 (0, ([], ()))).2.1], .cells [.int .i64 (iOr .i64 (gs.getD 0 (0, ([], ()))).1 (gs.getD 1 (0, ([], ()))).1), .own (.cons (.int .i64) (.cons (.int .i64) .nil)) 5], .row true (.cons (.int .i64) (.cons (.int .i64) .nil)) ((([] : List (Int × (Int × Unit))) ++ (gs.getD 0 (0, ([], ()))).2.1) ++ (gs.getD 1 (0, ([], ()))).2.1), .row true (.int .i64) (hasL l (gs.getD 0 (0, ([], ()))).1 (gs.getD 0 (0, ([], ()))).2.1), .row true (.int .i64) (hasL l (iOr .i64 (gs.getD 0 (0, ([], ()))).1 (gs.getD 1 (0, ([], ()))).1) ((([] : List (Int × (Int × Unit))) ++ (gs.getD 0 (0, ([], ()))).2.1) ++ (gs.getD 1 (0, ([], ()))).2.1))], ⟨rfl, (gs.getD 0 (0, ([], ()))).2.1.length, 0, by omega, by simp, by omega, rfl, rfl⟩, ?_⟩
            rintro nM vs H ⟨k, hc2_0, hc2_1, rfl, rfl, rfl⟩
            refine ⟨fun h15 => ?_, fun h15 => ?_⟩
            ·replace h15 : (k : Int) < (((gs.getD 0 (0, ([], ()))).2.1.length : Nat) : Int) := h15
             refine ⟨⟨by show (0 : Int) ≤ (k : Int); omega, by show (k : Int) < ((gs.getD 0 (0, ([], ()))).2.1.length : Int); omega⟩, ⟨rfl, rfl, rfl, Nat.le_of_ble_eq_true rfl⟩, rfl, rfl, ⟨by show l.length ≤ 1048576; first | omega | assumption, by first | assumption | simp⟩, fun h16 => ?_, fun h16 => ?_⟩
             ·replace h16 : (askE l (nu.getD 0 0) ((gs.getD 0 (0, ([], ()))).2.1.getD k (0, (0, ()))).2.1 0 1000000) = 0 := h16
              refine ⟨fun h17 => ?_, fun h17 => ?_⟩
              ·replace h17 : 0 < (((atL l (nu.getD 0 0) ((gs.getD 0 (0, ([], ()))).2.1.getD k (0, (0, ()))).2.1).length : Nat) : Int) := h17
               refine ⟨trivial, ?_⟩
               exact ⟨rfl, rfl, congrArg V.b (propext ⟨fun _ => trivial, fun _ => by first | trivial | rfl⟩), rfl⟩
              ·replace h17 : ¬ (0 < (((atL l (nu.getD 0 0) ((gs.getD 0 (0, ([], ()))).2.1.getD k (0, (0, ()))).2.1).length : Nat) : Int)) := h17
               refine ⟨⟨by show (-9223372036854775808 : Int) ≤ ((k : Int) + 1); omega, by show ((k : Int) + 1) ≤ (9223372036854775807 : Int); omega⟩, ?_⟩
               exact ⟨rfl, (gs.getD 0 (0, ([], ()))).2.1.length - (k + 1), by omega, k + 1, by omega, all_nextG (d := (0, (0, ()))) (p := fun x : (Int × (Int × Unit)) => ¬ (askE l (nu.getD 0 0) x.2.1 0 1000000 = 0 ∧ 0 < (((atL l (nu.getD 0 0) x.2.1).length : Nat) : Int))) (by omega) (by assumption) (by first | exact fun g => absurd g.1 (by assumption) | exact fun g => absurd g.2 (by assumption)), rfl, rfl, rfl⟩
             ·replace h16 : ¬ ((askE l (nu.getD 0 0) ((gs.getD 0 (0, ([], ()))).2.1.getD k (0, (0, ()))).2.1 0 1000000) = 0) := h16
              refine ⟨⟨by show (-9223372036854775808 : Int) ≤ ((k : Int) + 1); omega, by show ((k : Int) + 1) ≤ (9223372036854775807 : Int); omega⟩, ?_⟩
              exact ⟨rfl, (gs.getD 0 (0, ([], ()))).2.1.length - (k + 1), by omega, k + 1, by omega, all_nextG (d := (0, (0, ()))) (p := fun x : (Int × (Int × Unit)) => ¬ (askE l (nu.getD 0 0) x.2.1 0 1000000 = 0 ∧ 0 < (((atL l (nu.getD 0 0) x.2.1).length : Nat) : Int))) (by omega) (by assumption) (by first | exact fun g => absurd g.1 (by assumption) | exact fun g => absurd g.2 (by assumption)), rfl, rfl, rfl⟩
            ·replace h15 : ¬ ((k : Int) < (((gs.getD 0 (0, ([], ()))).2.1.length : Nat) : Int)) := h15
             exact ⟨rfl, rfl, congrArg V.b (propext ⟨fun _ => trivial, fun _ => (tel_some (l := l) (o := (nu.getD 0 0)) (n := (nu.getD 1 0)) (bad := (gs.getD 0 (0, ([], ()))).1) (cs := (gs.getD 0 (0, ([], ()))).2.1) (k := k) (by assumption) (by assumption) (by assumption) (by assumption) (by omega)).elim⟩), rfl⟩
          ·replace h10 : ¬ (tolT l (nu.getD 0 0) (nu.getD 1 0) (gs.getD 0 (0, ([], ()))).1 (gs.getD 0 (0, ([], ()))).2.1 = true) := h10
           refine ⟨fun h18 => ?_, fun h18 => absurd h18 (show ¬ ((tolE l (nu.getD 0 0) (nu.getD 1 0) (gs.getD 0 (0, ([], ()))).1 (gs.getD 0 (0, ([], ()))).2.1) ≠ 0) by first | omega | assumption | simp_all)⟩
           refine ⟨fun h19 => absurd (show ¬ (tolT l (nu.getD 0 0) (nu.getD 1 0) (gs.getD 0 (0, ([], ()))).1 (gs.getD 0 (0, ([], ()))).2.1 = true) by first | omega | assumption | simp_all) h19, fun h19 => ?_⟩
           refine ⟨trivial, ?_⟩
           exact ⟨rfl, rfl, congrArg V.b (propext ⟨fun _ => trivial, fun _ => by first | trivial | rfl⟩), rfl⟩
         ·replace h9 : ¬ ((tolE l (nu.getD 0 0) (min (nu.getD 1 0) (nu.getD 2 0)) (iOr .i64 (gs.getD 0 (0, ([], ()))).1 (gs.getD 1 (0, ([], ()))).1) ((([] : List (Int × (Int × Unit))) ++ (gs.getD 0 (0, ([], ()))).2.1) ++ (gs.getD 1 (0, ([], ()))).2.1)) = 0) := h9
          refine ⟨fun h20 => ?_, fun h20 => absurd h20 (show ¬ ((tolE l (nu.getD 0 0) (nu.getD 1 0) (gs.getD 0 (0, ([], ()))).1 (gs.getD 0 (0, ([], ()))).2.1) ≠ 0) by first | omega | assumption | simp_all)⟩
          refine ⟨fun h21 => ?_, fun h21 => ?_⟩
          ·replace h21 : ¬ (¬ (tolT l (nu.getD 0 0) (nu.getD 1 0) (gs.getD 0 (0, ([], ()))).1 (gs.getD 0 (0, ([], ()))).2.1 = true)) := h21
           refine ⟨fun h22 => ?_, fun h22 => ?_⟩
           ·replace h22 : (gs.getD 0 (0, ([], ()))).1 ≠ 0 := h22
            refine ⟨trivial, ?_⟩
            exact ⟨rfl, rfl, congrArg V.b (propext ⟨fun _ => trivial, fun _ => by first | trivial | rfl⟩), rfl⟩
           ·replace h22 : ¬ ((gs.getD 0 (0, ([], ()))).1 ≠ 0) := h22
            refine ⟨8, [(0, .k), (7, .k), (144, .k), (145, .k), (146, .k)], fun nM vs H => ∃ (k : Nat), k ≤ (gs.getD 0 (0, ([], ()))).2.1.length ∧ (∀ x ∈ (gs.getD 0 (0, ([], ()))).2.1.take k, ¬ (askE l (nu.getD 0 0) x.2.1 0 1000000 = 0 ∧ 0 < (((atL l (nu.getD 0 0) x.2.1).length : Nat) : Int))) ∧ nM = (gs.getD 0 (0, ([], ()))).2.1.length - k ∧ vs = [.sl false (.cons (.int .i64) (.cons (.int .i64) (.cons (.int .i64) (.cons (.sl (.int .i64)) (.cons (.int .i64) (.cons (.int .i64) (.cons (.int .i64) (.cons (.int .i64) (.cons (.int .i64) (.cons (.int .i64) .nil)))))))))) l, .int .i64 (nu.getD 0 0), .sl false (.cons (.int .i64) (.cons (.int .i64) .nil)) (gs.getD 0 (0, ([], ()))).2.1, .int .i64 (((gs.getD 0 (0, ([], ()))).2.1.length : Nat) : Int), .int .i64 (k : Int)] ∧ H = [.row true (.int .i64) nu, .row false (.cons (.int .i64) (.cons (.sl (.cons (.int .i64) (.cons (.int .i64) .nil))) .nil)) gs, .cells [.int .i64 (gs.getD 0 (0, ([], ()))).1, .sl false (.cons (.int .i64) (.cons (.int .i64) .nil)) (gs.getD 0 (0, ([], ()))).2.1], .cells [.int .i64 (gs.getD 1 (0, ([], ()))).1, .sl false (.cons (.int .i64) (.cons (.int .i64) .nil)) (gs.getD 1 (0, ([], ()))).2.1], .cells [.int .i64 (iOr .i64 (gs.getD 0 (0, ([], ()))).1 (gs.getD 1 (0, ([], ()))).1), .own (.cons (.int .i64) (.cons (.int .i64) .nil)) 5], .row true (.cons (.int .i64) (.cons (.int .i64) .nil)) ((([] : List (Int × (Int × Unit))) ++ (gs.getD 0 (0, ([], ()))).2.1) ++ (gs.getD 1 (0, ([], ()))).2.1), .row true (.int .i64) (hasL l (gs.getD 0 (0, ([], ()))).1 (gs.getD 0 (0, ([], ()))).2.1), .row true (.int .i64) (hasL l (iOr .i64 (gs.getD 0 (0, ([], ()))).1 (gs.getD 1 (0, ([], ()))).1) ((([] : List (Int × (Int × Unit))) ++ (gs.getD 0 (0, ([], ()))).2.1) ++ (gs.getD 1 (0, ([], ()))).2.1))], ⟨rfl, (gs.getD 0 (0, ([], ()))).2.1.length, 0, by omega, by simp, by omega, rfl, rfl⟩, ?_⟩
            rintro nM vs H ⟨k, hc3_0, hc3_1, rfl, rfl, rfl⟩
            refine ⟨fun h23 => ?_, fun h23 => ?_⟩
            ·replace h23 : (k : Int) < (((gs.getD 0 (0, ([], ()))).2.1.length : Nat) : Int) := h23
             refine ⟨⟨by show (0 : Int) ≤ (k : Int); omega, by show (k : Int) < ((gs.getD 0 (0, ([], ()))).2.1.length : Int); omega⟩, ⟨rfl, rfl, rfl, Nat.le_of_ble_eq_true rfl⟩, rfl, rfl, ⟨by show l.length ≤ 1048576; first | omega | assumption, by first | assumption | simp⟩, fun h24 => ?_, fun h24 => ?_⟩
             ·replace h24 : (askE l (nu.getD 0 0) ((gs.getD 0 (0, ([], ()))).2.1.getD k (0, (0, ()))).2.1 0 1000000) = 0 := h24
              refine ⟨fun h25 => ?_, fun h25 => ?_⟩
              ·replace h25 : 0 < (((atL l (nu.getD 0 0) ((gs.getD 0 (0, ([], ()))).2.1.getD k (0, (0, ()))).2.1).length : Nat) : Int) := h25
               refine ⟨trivial, ?_⟩
               exact ⟨rfl, rfl, congrArg V.b (propext ⟨fun _ => trivial, fun _ => by first | trivial | rfl⟩), rfl⟩
              ·replace h25 : ¬ (0 < (((atL l (nu.getD 0 0) ((gs.getD 0 (0, ([], ()))).2.1.getD k (0, (0, ()))).2.1).length : Nat) : Int)) := h25
               refine ⟨⟨by show (-9223372036854775808 : Int) ≤ ((k : Int) + 1); omega, by show ((k : Int) + 1) ≤ (9223372036854775807 : Int); omega⟩, ?_⟩
               exact ⟨rfl, (gs.getD 0 (0, ([], ()))).2.1.length - (k + 1), by omega, k + 1, by omega, all_nextG (d := (0, (0, ()))) (p := fun x : (Int × (Int × Unit)) => ¬ (askE l (nu.getD 0 0) x.2.1 0 1000000 = 0 ∧ 0 < (((atL l (nu.getD 0 0) x.2.1).length : Nat) : Int))) (by omega) (by assumption) (by first | exact fun g => absurd g.1 (by assumption) | exact fun g => absurd g.2 (by assumption)), rfl, rfl, rfl⟩
             ·replace h24 : ¬ ((askE l (nu.getD 0 0) ((gs.getD 0 (0, ([], ()))).2.1.getD k (0, (0, ()))).2.1 0 1000000) = 0) := h24
              refine ⟨⟨by show (-9223372036854775808 : Int) ≤ ((k : Int) + 1); omega, by show ((k : Int) + 1) ≤ (9223372036854775807 : Int); omega⟩, ?_⟩
              exact ⟨rfl, (gs.getD 0 (0, ([], ()))).2.1.length - (k + 1), by omega, k + 1, by omega, all_nextG (d := (0, (0, ()))) (p := fun x : (Int × (Int × Unit)) => ¬ (askE l (nu.getD 0 0) x.2.1 0 1000000 = 0 ∧ 0 < (((atL l (nu.getD 0 0) x.2.1).length : Nat) : Int))) (by omega) (by assumption) (by first | exact fun g => absurd g.1 (by assumption) | exact fun g => absurd g.2 (by assumption)), rfl, rfl, rfl⟩
            ·replace h23 : ¬ ((k : Int) < (((gs.getD 0 (0, ([], ()))).2.1.length : Nat) : Int)) := h23
             exact ⟨rfl, rfl, congrArg V.b (propext ⟨fun _ => trivial, fun _ => (tel_some (l := l) (o := (nu.getD 0 0)) (n := (nu.getD 1 0)) (bad := (gs.getD 0 (0, ([], ()))).1) (cs := (gs.getD 0 (0, ([], ()))).2.1) (k := k) (by assumption) (by assumption) (by assumption) (by assumption) (by omega)).elim⟩), rfl⟩
          ·replace h21 : ¬ (tolT l (nu.getD 0 0) (nu.getD 1 0) (gs.getD 0 (0, ([], ()))).1 (gs.getD 0 (0, ([], ()))).2.1 = true) := h21
           refine ⟨trivial, ?_⟩
           exact ⟨rfl, rfl, congrArg V.b (propext ⟨fun _ => trivial, fun _ => by first | trivial | rfl⟩), rfl⟩
        ·replace h8 : ¬ ((tolE l (nu.getD 0 0) (nu.getD 1 0) (gs.getD 0 (0, ([], ()))).1 (gs.getD 0 (0, ([], ()))).2.1) = 0) := h8
         refine ⟨fun h26 => absurd (show (tolE l (nu.getD 0 0) (nu.getD 1 0) (gs.getD 0 (0, ([], ()))).1 (gs.getD 0 (0, ([], ()))).2.1) ≠ 0 by first | omega | assumption | simp_all) h26, fun h26 => ?_⟩
         refine ⟨trivial, ?_⟩
         exact ⟨rfl, rfl, congrArg V.b (propext ⟨fun _ => trivial, fun _ => by first | trivial | rfl⟩), rfl⟩
      ·replace h5 : ¬ ((hasE l (iOr .i64 (gs.getD 0 (0, ([], ()))).1 (gs.getD 1 (0, ([], ()))).1) ((([] : List (Int × (Int × Unit))) ++ (gs.getD 0 (0, ([], ()))).2.1) ++ (gs.getD 1 (0, ([], ()))).2.1)) = 0) := h5
       refine ⟨fun h27 => ?_, fun h27 => ?_⟩
       ·replace h27 : (tolE l (nu.getD 0 0) (nu.getD 1 0) (gs.getD 0 (0, ([], ()))).1 (gs.getD 0 (0, ([], ()))).2.1) = 0 := h27
        refine ⟨fun h28 => ?_, fun h28 => ?_⟩
        ·replace h28 : (tolE l (nu.getD 0 0) (min (nu.getD 1 0) (nu.getD 2 0)) (iOr .i64 (gs.getD 0 (0, ([], ()))).1 (gs.getD 1 (0, ([], ()))).1) ((([] : List (Int × (Int × Unit))) ++ (gs.getD 0 (0, ([], ()))).2.1) ++ (gs.getD 1 (0, ([], ()))).2.1)) = 0 := h28
         refine ⟨fun h29 => ?_, fun h29 => ?_⟩
         ·replace h29 : tolT l (nu.getD 0 0) (nu.getD 1 0) (gs.getD 0 (0, ([], ()))).1 (gs.getD 0 (0, ([], ()))).2.1 = true := h29
          refine ⟨fun h30 => absurd h30 (show ¬ (¬ (tolT l (nu.getD 0 0) (min (nu.getD 1 0) (nu.getD 2 0)) (iOr .i64 (gs.getD 0 (0, ([], ()))).1 (gs.getD 1 (0, ([], ()))).1) ((([] : List (Int × (Int × Unit))) ++ (gs.getD 0 (0, ([], ()))).2.1) ++ (gs.getD 1 (0, ([], ()))).2.1) = true)) by exact fun h => h (tol_more (by assumption) (by assumption) (by assumption))), fun h30 => ?_⟩
          refine ⟨fun h31 => ?_, fun h31 => absurd h31 (show ¬ ((tolE l (nu.getD 0 0) (nu.getD 1 0) (gs.getD 0 (0, ([], ()))).1 (gs.getD 0 (0, ([], ()))).2.1) ≠ 0) by first | omega | assumption | simp_all)⟩
          refine ⟨fun h32 => ?_, fun h32 => absurd h32 (show ¬ (¬ (tolT l (nu.getD 0 0) (nu.getD 1 0) (gs.getD 0 (0, ([], ()))).1 (gs.getD 0 (0, ([], ()))).2.1 = true)) by first | omega | assumption | simp_all)⟩
          refine ⟨fun h33 => ?_, fun h33 => ?_⟩
          ·replace h33 : (gs.getD 0 (0, ([], ()))).1 ≠ 0 := h33
           refine ⟨trivial, ?_⟩
           exact ⟨rfl, rfl, congrArg V.b (propext ⟨fun _ => trivial, fun _ => by first | trivial | rfl⟩), rfl⟩
          ·replace h33 : ¬ ((gs.getD 0 (0, ([], ()))).1 ≠ 0) := h33
           refine ⟨8, [(0, .k), (7, .k), (144, .k), (145, .k), (146, .k)], fun nM vs H => ∃ (k : Nat), k ≤ (gs.getD 0 (0, ([], ()))).2.1.length ∧ (∀ x ∈ (gs.getD 0 (0, ([], ()))).2.1.take k, ¬ (askE l (nu.getD 0 0) x.2.1 0 1000000 = 0 ∧ 0 < (((atL l (nu.getD 0 0) x.2.1).length : Nat) : Int))) ∧ nM = (gs.getD 0 (0, ([], ()))).2.1.length - k ∧ vs = [.sl false (.cons (.int .i64) (.cons (.int .i64) (.cons (.int .i64) (.cons (.sl (.int .i64)) (.cons (.int .i64) (.cons (.int .i64) (.cons (.int .i64) (.cons (.int .i64) (.cons (.int .i64) (.cons (.int .i64) .nil)))))))))) l, .int .i64 (nu.getD 0 0), .sl false (.cons (.int .i64) (.cons (.int .i64) .nil)) (gs.getD 0 (0, ([], ()))).2.1, .int .i64 (((gs.getD 0 (0, ([], ()))).2.1.length : Nat) : Int), .int .i64 (k : Int)] ∧ H = [.row true (.int .i64) nu, .row false (.cons (.int .i64) (.cons (.sl (.cons (.int .i64) (.cons (.int .i64) .nil))) .nil)) gs, .cells [.int .i64 (gs.getD 0 (0, ([], ()))).1, .sl false (.cons (.int .i64) (.cons (.int .i64) .nil)) (gs.getD 0 (0, ([], ()))).2.1], .cells [.int .i64 (gs.getD 1 (0, ([], ()))).1, .sl false (.cons (.int .i64) (.cons (.int .i64) .nil)) (gs.getD 1 (0, ([], ()))).2.1], .cells [.int .i64 (iOr .i64 (gs.getD 0 (0, ([], ()))).1 (gs.getD 1 (0, ([], ()))).1), .own (.cons (.int .i64) (.cons (.int .i64) .nil)) 5], .row true (.cons (.int .i64) (.cons (.int .i64) .nil)) ((([] : List (Int × (Int × Unit))) ++ (gs.getD 0 (0, ([], ()))).2.1) ++ (gs.getD 1 (0, ([], ()))).2.1), .row true (.int .i64) (hasL l (gs.getD 0 (0, ([], ()))).1 (gs.getD 0 (0, ([], ()))).2.1), .row true (.int .i64) (hasL l (iOr .i64 (gs.getD 0 (0, ([], ()))).1 (gs.getD 1 (0, ([], ()))).1) ((([] : List (Int × (Int × Unit))) ++ (gs.getD 0 (0, ([], ()))).2.1) ++ (gs.getD 1 (0, ([], ()))).2.1))], ⟨rfl, (gs.getD 0 (0, ([], ()))).2.1.length, 0, by omega, by simp, by omega, rfl, rfl⟩, ?_⟩
           rintro nM vs H ⟨k, hc4_0, hc4_1, rfl, rfl, rfl⟩
           refine ⟨fun h34 => ?_, fun h34 => ?_⟩
           ·replace h34 : (k : Int) < (((gs.getD 0 (0, ([], ()))).2.1.length : Nat) : Int) := h34
            refine ⟨⟨by show (0 : Int) ≤ (k : Int); omega, by show (k : Int) < ((gs.getD 0 (0, ([], ()))).2.1.length : Int); omega⟩, ⟨rfl, rfl, rfl, Nat.le_of_ble_eq_true rfl⟩, rfl, rfl, ⟨by show l.length ≤ 1048576; first | omega | assumption, by first | assumption | simp⟩, fun h35 => ?_, fun h35 => ?_⟩
            ·replace h35 : (askE l (nu.getD 0 0) ((gs.getD 0 (0, ([], ()))).2.1.getD k (0, (0, ()))).2.1 0 1000000) = 0 := h35
             refine ⟨fun h36 => ?_, fun h36 => ?_⟩
             ·replace h36 : 0 < (((atL l (nu.getD 0 0) ((gs.getD 0 (0, ([], ()))).2.1.getD k (0, (0, ()))).2.1).length : Nat) : Int) := h36
              refine ⟨trivial, ?_⟩
              exact ⟨rfl, rfl, congrArg V.b (propext ⟨fun _ => trivial, fun _ => by first | trivial | rfl⟩), rfl⟩
             ·replace h36 : ¬ (0 < (((atL l (nu.getD 0 0) ((gs.getD 0 (0, ([], ()))).2.1.getD k (0, (0, ()))).2.1).length : Nat) : Int)) := h36
              refine ⟨⟨by show (-9223372036854775808 : Int) ≤ ((k : Int) + 1); omega, by show ((k : Int) + 1) ≤ (9223372036854775807 : Int); omega⟩, ?_⟩
              exact ⟨rfl, (gs.getD 0 (0, ([], ()))).2.1.length - (k + 1), by omega, k + 1, by omega, all_nextG (d := (0, (0, ()))) (p := fun x : (Int × (Int × Unit)) => ¬ (askE l (nu.getD 0 0) x.2.1 0 1000000 = 0 ∧ 0 < (((atL l (nu.getD 0 0) x.2.1).length : Nat) : Int))) (by omega) (by assumption) (by first | exact fun g => absurd g.1 (by assumption) | exact fun g => absurd g.2 (by assumption)), rfl, rfl, rfl⟩
            ·replace h35 : ¬ ((askE l (nu.getD 0 0) ((gs.getD 0 (0, ([], ()))).2.1.getD k (0, (0, ()))).2.1 0 1000000) = 0) := h35
             refine ⟨⟨by show (-9223372036854775808 : Int) ≤ ((k : Int) + 1); omega, by show ((k : Int) + 1) ≤ (9223372036854775807 : Int); omega⟩, ?_⟩
             exact ⟨rfl, (gs.getD 0 (0, ([], ()))).2.1.length - (k + 1), by omega, k + 1, by omega, all_nextG (d := (0, (0, ()))) (p := fun x : (Int × (Int × Unit)) => ¬ (askE l (nu.getD 0 0) x.2.1 0 1000000 = 0 ∧ 0 < (((atL l (nu.getD 0 0) x.2.1).length : Nat) : Int))) (by omega) (by assumption) (by first | exact fun g => absurd g.1 (by assumption) | exact fun g => absurd g.2 (by assumption)), rfl, rfl, rfl⟩
           ·replace h34 : ¬ ((k : Int) < (((gs.getD 0 (0, ([], ()))).2.1.length : Nat) : Int)) := h34
            exact ⟨rfl, rfl, congrArg V.b (propext ⟨fun _ => trivial, fun _ => (tel_some (l := l) (o := (nu.getD 0 0)) (n := (nu.getD 1 0)) (bad := (gs.getD 0 (0, ([], ()))).1) (cs := (gs.getD 0 (0, ([], ()))).2.1) (k := k) (by assumption) (by assumption) (by assumption) (by assumption) (by omega)).elim⟩), rfl⟩
         ·replace h29 : ¬ (tolT l (nu.getD 0 0) (nu.getD 1 0) (gs.getD 0 (0, ([], ()))).1 (gs.getD 0 (0, ([], ()))).2.1 = true) := h29
          refine ⟨fun h37 => ?_, fun h37 => absurd h37 (show ¬ ((tolE l (nu.getD 0 0) (nu.getD 1 0) (gs.getD 0 (0, ([], ()))).1 (gs.getD 0 (0, ([], ()))).2.1) ≠ 0) by first | omega | assumption | simp_all)⟩
          refine ⟨fun h38 => absurd (show ¬ (tolT l (nu.getD 0 0) (nu.getD 1 0) (gs.getD 0 (0, ([], ()))).1 (gs.getD 0 (0, ([], ()))).2.1 = true) by first | omega | assumption | simp_all) h38, fun h38 => ?_⟩
          refine ⟨trivial, ?_⟩
          exact ⟨rfl, rfl, congrArg V.b (propext ⟨fun _ => trivial, fun _ => by first | trivial | rfl⟩), rfl⟩
        ·replace h28 : ¬ ((tolE l (nu.getD 0 0) (min (nu.getD 1 0) (nu.getD 2 0)) (iOr .i64 (gs.getD 0 (0, ([], ()))).1 (gs.getD 1 (0, ([], ()))).1) ((([] : List (Int × (Int × Unit))) ++ (gs.getD 0 (0, ([], ()))).2.1) ++ (gs.getD 1 (0, ([], ()))).2.1)) = 0) := h28
         refine ⟨fun h39 => ?_, fun h39 => absurd h39 (show ¬ ((tolE l (nu.getD 0 0) (nu.getD 1 0) (gs.getD 0 (0, ([], ()))).1 (gs.getD 0 (0, ([], ()))).2.1) ≠ 0) by first | omega | assumption | simp_all)⟩
         refine ⟨fun h40 => ?_, fun h40 => ?_⟩
         ·replace h40 : ¬ (¬ (tolT l (nu.getD 0 0) (nu.getD 1 0) (gs.getD 0 (0, ([], ()))).1 (gs.getD 0 (0, ([], ()))).2.1 = true)) := h40
          refine ⟨fun h41 => ?_, fun h41 => ?_⟩
          ·replace h41 : (gs.getD 0 (0, ([], ()))).1 ≠ 0 := h41
           refine ⟨trivial, ?_⟩
           exact ⟨rfl, rfl, congrArg V.b (propext ⟨fun _ => trivial, fun _ => by first | trivial | rfl⟩), rfl⟩
          ·replace h41 : ¬ ((gs.getD 0 (0, ([], ()))).1 ≠ 0) := h41
           refine ⟨8, [(0, .k), (7, .k), (144, .k), (145, .k), (146, .k)], fun nM vs H => ∃ (k : Nat), k ≤ (gs.getD 0 (0, ([], ()))).2.1.length ∧ (∀ x ∈ (gs.getD 0 (0, ([], ()))).2.1.take k, ¬ (askE l (nu.getD 0 0) x.2.1 0 1000000 = 0 ∧ 0 < (((atL l (nu.getD 0 0) x.2.1).length : Nat) : Int))) ∧ nM = (gs.getD 0 (0, ([], ()))).2.1.length - k ∧ vs = [.sl false (.cons (.int .i64) (.cons (.int .i64) (.cons (.int .i64) (.cons (.sl (.int .i64)) (.cons (.int .i64) (.cons (.int .i64) (.cons (.int .i64) (.cons (.int .i64) (.cons (.int .i64) (.cons (.int .i64) .nil)))))))))) l, .int .i64 (nu.getD 0 0), .sl false (.cons (.int .i64) (.cons (.int .i64) .nil)) (gs.getD 0 (0, ([], ()))).2.1, .int .i64 (((gs.getD 0 (0, ([], ()))).2.1.length : Nat) : Int), .int .i64 (k : Int)] ∧ H = [.row true (.int .i64) nu, .row false (.cons (.int .i64) (.cons (.sl (.cons (.int .i64) (.cons (.int .i64) .nil))) .nil)) gs, .cells [.int .i64 (gs.getD 0 (0, ([], ()))).1, .sl false (.cons (.int .i64) (.cons (.int .i64) .nil)) (gs.getD 0 (0, ([], ()))).2.1], .cells [.int .i64 (gs.getD 1 (0, ([], ()))).1, .sl false (.cons (.int .i64) (.cons (.int .i64) .nil)) (gs.getD 1 (0, ([], ()))).2.1], .cells [.int .i64 (iOr .i64 (gs.getD 0 (0, ([], ()))).1 (gs.getD 1 (0, ([], ()))).1), .own (.cons (.int .i64) (.cons (.int .i64) .nil)) 5], .row true (.cons (.int .i64) (.cons (.int .i64) .nil)) ((([] : List (Int × (Int × Unit))) ++ (gs.getD 0 (0, ([], ()))).2.1) ++ (gs.getD 1 (0, ([], ()))).2.1), .row true (.int .i64) (hasL l (gs.getD 0 (0, ([], ()))).1 (gs.getD 0 (0, ([], ()))).2.1), .row true (.int .i64) (hasL l (iOr .i64 (gs.getD 0 (0, ([], ()))).1 (gs.getD 1 (0, ([], ()))).1) ((([] : List (Int × (Int × Unit))) ++ (gs.getD 0 (0, ([], ()))).2.1) ++ (gs.getD 1 (0, ([], ()))).2.1))], ⟨rfl, (gs.getD 0 (0, ([], ()))).2.1.length, 0, by omega, by simp, by omega, rfl, rfl⟩, ?_⟩
           rintro nM vs H ⟨k, hc5_0, hc5_1, rfl, rfl, rfl⟩
           refine ⟨fun h42 => ?_, fun h42 => ?_⟩
           ·replace h42 : (k : Int) < (((gs.getD 0 (0, ([], ()))).2.1.length : Nat) : Int) := h42
            refine ⟨⟨by show (0 : Int) ≤ (k : Int); omega, by show (k : Int) < ((gs.getD 0 (0, ([], ()))).2.1.length : Int); omega⟩, ⟨rfl, rfl, rfl, Nat.le_of_ble_eq_true rfl⟩, rfl, rfl, ⟨by show l.length ≤ 1048576; first | omega | assumption, by first | assumption | simp⟩, fun h43 => ?_, fun h43 => ?_⟩
            ·replace h43 : (askE l (nu.getD 0 0) ((gs.getD 0 (0, ([], ()))).2.1.getD k (0, (0, ()))).2.1 0 1000000) = 0 := h43
             refine ⟨fun h44 => ?_, fun h44 => ?_⟩
             ·replace h44 : 0 < (((atL l (nu.getD 0 0) ((gs.getD 0 (0, ([], ()))).2.1.getD k (0, (0, ()))).2.1).length : Nat) : Int) := h44
              refine ⟨trivial, ?_⟩
              exact ⟨rfl, rfl, congrArg V.b (propext ⟨fun _ => trivial, fun _ => by first | trivial | rfl⟩), rfl⟩
             ·replace h44 : ¬ (0 < (((atL l (nu.getD 0 0) ((gs.getD 0 (0, ([], ()))).2.1.getD k (0, (0, ()))).2.1).length : Nat) : Int)) := h44
              refine ⟨⟨by show (-9223372036854775808 : Int) ≤ ((k : Int) + 1); omega, by show ((k : Int) + 1) ≤ (9223372036854775807 : Int); omega⟩, ?_⟩
              exact ⟨rfl, (gs.getD 0 (0, ([], ()))).2.1.length - (k + 1), by omega, k + 1, by omega, all_nextG (d := (0, (0, ()))) (p := fun x : (Int × (Int × Unit)) => ¬ (askE l (nu.getD 0 0) x.2.1 0 1000000 = 0 ∧ 0 < (((atL l (nu.getD 0 0) x.2.1).length : Nat) : Int))) (by omega) (by assumption) (by first | exact fun g => absurd g.1 (by assumption) | exact fun g => absurd g.2 (by assumption)), rfl, rfl, rfl⟩
            ·replace h43 : ¬ ((askE l (nu.getD 0 0) ((gs.getD 0 (0, ([], ()))).2.1.getD k (0, (0, ()))).2.1 0 1000000) = 0) := h43
             refine ⟨⟨by show (-9223372036854775808 : Int) ≤ ((k : Int) + 1); omega, by show ((k : Int) + 1) ≤ (9223372036854775807 : Int); omega⟩, ?_⟩
             exact ⟨rfl, (gs.getD 0 (0, ([], ()))).2.1.length - (k + 1), by omega, k + 1, by omega, all_nextG (d := (0, (0, ()))) (p := fun x : (Int × (Int × Unit)) => ¬ (askE l (nu.getD 0 0) x.2.1 0 1000000 = 0 ∧ 0 < (((atL l (nu.getD 0 0) x.2.1).length : Nat) : Int))) (by omega) (by assumption) (by first | exact fun g => absurd g.1 (by assumption) | exact fun g => absurd g.2 (by assumption)), rfl, rfl, rfl⟩
           ·replace h42 : ¬ ((k : Int) < (((gs.getD 0 (0, ([], ()))).2.1.length : Nat) : Int)) := h42
            exact ⟨rfl, rfl, congrArg V.b (propext ⟨fun _ => trivial, fun _ => (tel_some (l := l) (o := (nu.getD 0 0)) (n := (nu.getD 1 0)) (bad := (gs.getD 0 (0, ([], ()))).1) (cs := (gs.getD 0 (0, ([], ()))).2.1) (k := k) (by assumption) (by assumption) (by assumption) (by assumption) (by omega)).elim⟩), rfl⟩
         ·replace h40 : ¬ (tolT l (nu.getD 0 0) (nu.getD 1 0) (gs.getD 0 (0, ([], ()))).1 (gs.getD 0 (0, ([], ()))).2.1 = true) := h40
          refine ⟨trivial, ?_⟩
          exact ⟨rfl, rfl, congrArg V.b (propext ⟨fun _ => trivial, fun _ => by first | trivial | rfl⟩), rfl⟩
       ·replace h27 : ¬ ((tolE l (nu.getD 0 0) (nu.getD 1 0) (gs.getD 0 (0, ([], ()))).1 (gs.getD 0 (0, ([], ()))).2.1) = 0) := h27
        refine ⟨fun h45 => absurd (show (tolE l (nu.getD 0 0) (nu.getD 1 0) (gs.getD 0 (0, ([], ()))).1 (gs.getD 0 (0, ([], ()))).2.1) ≠ 0 by first | omega | assumption | simp_all) h45, fun h45 => ?_⟩
        refine ⟨trivial, ?_⟩
        exact ⟨rfl, rfl, congrArg V.b (propext ⟨fun _ => trivial, fun _ => by first | trivial | rfl⟩), rfl⟩
     ·replace h4 : ¬ ((hasE l (gs.getD 0 (0, ([], ()))).1 (gs.getD 0 (0, ([], ()))).2.1) = 0) := h4
      refine ⟨fun h46 => ?_, fun h46 => ?_⟩
      ·replace h46 : (tolE l (nu.getD 0 0) (nu.getD 1 0) (gs.getD 0 (0, ([], ()))).1 (gs.getD 0 (0, ([], ()))).2.1) = 0 := h46
       refine ⟨fun h47 => ?_, fun h47 => ?_⟩
       ·replace h47 : (tolE l (nu.getD 0 0) (min (nu.getD 1 0) (nu.getD 2 0)) (iOr .i64 (gs.getD 0 (0, ([], ()))).1 (gs.getD 1 (0, ([], ()))).1) ((([] : List (Int × (Int × Unit))) ++ (gs.getD 0 (0, ([], ()))).2.1) ++ (gs.getD 1 (0, ([], ()))).2.1)) = 0 := h47
        refine ⟨fun h48 => ?_, fun h48 => ?_⟩
        ·replace h48 : tolT l (nu.getD 0 0) (nu.getD 1 0) (gs.getD 0 (0, ([], ()))).1 (gs.getD 0 (0, ([], ()))).2.1 = true := h48
         refine ⟨fun h49 => absurd h49 (show ¬ (¬ (tolT l (nu.getD 0 0) (min (nu.getD 1 0) (nu.getD 2 0)) (iOr .i64 (gs.getD 0 (0, ([], ()))).1 (gs.getD 1 (0, ([], ()))).1) ((([] : List (Int × (Int × Unit))) ++ (gs.getD 0 (0, ([], ()))).2.1) ++ (gs.getD 1 (0, ([], ()))).2.1) = true)) by exact fun h => h (tol_more (by assumption) (by assumption) (by assumption))), fun h49 => ?_⟩
         refine ⟨fun h50 => ?_, fun h50 => absurd h50 (show ¬ ((tolE l (nu.getD 0 0) (nu.getD 1 0) (gs.getD 0 (0, ([], ()))).1 (gs.getD 0 (0, ([], ()))).2.1) ≠ 0) by first | omega | assumption | simp_all)⟩
         refine ⟨fun h51 => ?_, fun h51 => absurd h51 (show ¬ (¬ (tolT l (nu.getD 0 0) (nu.getD 1 0) (gs.getD 0 (0, ([], ()))).1 (gs.getD 0 (0, ([], ()))).2.1 = true)) by first | omega | assumption | simp_all)⟩
         refine ⟨fun h52 => ?_, fun h52 => ?_⟩
         ·replace h52 : (gs.getD 0 (0, ([], ()))).1 ≠ 0 := h52
          refine ⟨trivial, ?_⟩
          exact ⟨rfl, rfl, congrArg V.b (propext ⟨fun _ => trivial, fun _ => by first | trivial | rfl⟩), rfl⟩
         ·replace h52 : ¬ ((gs.getD 0 (0, ([], ()))).1 ≠ 0) := h52
          refine ⟨8, [(0, .k), (7, .k), (144, .k), (145, .k), (146, .k)], fun nM vs H => ∃ (k : Nat), k ≤ (gs.getD 0 (0, ([], ()))).2.1.length ∧ (∀ x ∈ (gs.getD 0 (0, ([], ()))).2.1.take k, ¬ (askE l (nu.getD 0 0) x.2.1 0 1000000 = 0 ∧ 0 < (((atL l (nu.getD 0 0) x.2.1).length : Nat) : Int))) ∧ nM = (gs.getD 0 (0, ([], ()))).2.1.length - k ∧ vs = [.sl false (.cons (.int .i64) (.cons (.int .i64) (.cons (.int .i64) (.cons (.sl (.int .i64)) (.cons (.int .i64) (.cons (.int .i64) (.cons (.int .i64) (.cons (.int .i64) (.cons (.int .i64) (.cons (.int .i64) .nil)))))))))) l, .int .i64 (nu.getD 0 0), .sl false (.cons (.int .i64) (.cons (.int .i64) .nil)) (gs.getD 0 (0, ([], ()))).2.1, .int .i64 (((gs.getD 0 (0, ([], ()))).2.1.length : Nat) : Int), .int .i64 (k : Int)] ∧ H = [.row true (.int .i64) nu, .row false (.cons (.int .i64) (.cons (.sl (.cons (.int .i64) (.cons (.int .i64) .nil))) .nil)) gs, .cells [.int .i64 (gs.getD 0 (0, ([], ()))).1, .sl false (.cons (.int .i64) (.cons (.int .i64) .nil)) (gs.getD 0 (0, ([], ()))).2.1], .cells [.int .i64 (gs.getD 1 (0, ([], ()))).1, .sl false (.cons (.int .i64) (.cons (.int .i64) .nil)) (gs.getD 1 (0, ([], ()))).2.1], .cells [.int .i64 (iOr .i64 (gs.getD 0 (0, ([], ()))).1 (gs.getD 1 (0, ([], ()))).1), .own (.cons (.int .i64) (.cons (.int .i64) .nil)) 5], .row true (.cons (.int .i64) (.cons (.int .i64) .nil)) ((([] : List (Int × (Int × Unit))) ++ (gs.getD 0 (0, ([], ()))).2.1) ++ (gs.getD 1 (0, ([], ()))).2.1), .row true (.int .i64) (hasL l (gs.getD 0 (0, ([], ()))).1 (gs.getD 0 (0, ([], ()))).2.1), .row true (.int .i64) (hasL l (iOr .i64 (gs.getD 0 (0, ([], ()))).1 (gs.getD 1 (0, ([], ()))).1) ((([] : List (Int × (Int × Unit))) ++ (gs.getD 0 (0, ([], ()))).2.1) ++ (gs.getD 1 (0, ([], ()))).2.1))], ⟨rfl, (gs.getD 0 (0, ([], ()))).2.1.length, 0, by omega, by simp, by omega, rfl, rfl⟩, ?_⟩
          rintro nM vs H ⟨k, hc6_0, hc6_1, rfl, rfl, rfl⟩
          refine ⟨fun h53 => ?_, fun h53 => ?_⟩
          ·replace h53 : (k : Int) < (((gs.getD 0 (0, ([], ()))).2.1.length : Nat) : Int) := h53
           refine ⟨⟨by show (0 : Int) ≤ (k : Int); omega, by show (k : Int) < ((gs.getD 0 (0, ([], ()))).2.1.length : Int); omega⟩, ⟨rfl, rfl, rfl, Nat.le_of_ble_eq_true rfl⟩, rfl, rfl, ⟨by show l.length ≤ 1048576; first | omega | assumption, by first | assumption | simp⟩, fun h54 => ?_, fun h54 => ?_⟩
           ·replace h54 : (askE l (nu.getD 0 0) ((gs.getD 0 (0, ([], ()))).2.1.getD k (0, (0, ()))).2.1 0 1000000) = 0 := h54
            refine ⟨fun h55 => ?_, fun h55 => ?_⟩
            ·replace h55 : 0 < (((atL l (nu.getD 0 0) ((gs.getD 0 (0, ([], ()))).2.1.getD k (0, (0, ()))).2.1).length : Nat) : Int) := h55
             refine ⟨trivial, ?_⟩
             exact ⟨rfl, rfl, congrArg V.b (propext ⟨fun _ => trivial, fun _ => by first | trivial | rfl⟩), rfl⟩
            ·replace h55 : ¬ (0 < (((atL l (nu.getD 0 0) ((gs.getD 0 (0, ([], ()))).2.1.getD k (0, (0, ()))).2.1).length : Nat) : Int)) := h55
             refine ⟨⟨by show (-9223372036854775808 : Int) ≤ ((k : Int) + 1); omega, by show ((k : Int) + 1) ≤ (9223372036854775807 : Int); omega⟩, ?_⟩
             exact ⟨rfl, (gs.getD 0 (0, ([], ()))).2.1.length - (k + 1), by omega, k + 1, by omega, all_nextG (d := (0, (0, ()))) (p := fun x : (Int × (Int × Unit)) => ¬ (askE l (nu.getD 0 0) x.2.1 0 1000000 = 0 ∧ 0 < (((atL l (nu.getD 0 0) x.2.1).length : Nat) : Int))) (by omega) (by assumption) (by first | exact fun g => absurd g.1 (by assumption) | exact fun g => absurd g.2 (by assumption)), rfl, rfl, rfl⟩
           ·replace h54 : ¬ ((askE l (nu.getD 0 0) ((gs.getD 0 (0, ([], ()))).2.1.getD k (0, (0, ()))).2.1 0 1000000) = 0) := h54
            refine ⟨⟨by show (-9223372036854775808 : Int) ≤ ((k : Int) + 1); omega, by show ((k : Int) + 1) ≤ (9223372036854775807 : Int); omega⟩, ?_⟩
            exact ⟨rfl, (gs.getD 0 (0, ([], ()))).2.1.length - (k + 1), by omega, k + 1, by omega, all_nextG (d := (0, (0, ()))) (p := fun x : (Int × (Int × Unit)) => ¬ (askE l (nu.getD 0 0) x.2.1 0 1000000 = 0 ∧ 0 < (((atL l (nu.getD 0 0) x.2.1).length : Nat) : Int))) (by omega) (by assumption) (by first | exact fun g => absurd g.1 (by assumption) | exact fun g => absurd g.2 (by assumption)), rfl, rfl, rfl⟩
          ·replace h53 : ¬ ((k : Int) < (((gs.getD 0 (0, ([], ()))).2.1.length : Nat) : Int)) := h53
           exact ⟨rfl, rfl, congrArg V.b (propext ⟨fun _ => trivial, fun _ => (tel_some (l := l) (o := (nu.getD 0 0)) (n := (nu.getD 1 0)) (bad := (gs.getD 0 (0, ([], ()))).1) (cs := (gs.getD 0 (0, ([], ()))).2.1) (k := k) (by assumption) (by assumption) (by assumption) (by assumption) (by omega)).elim⟩), rfl⟩
        ·replace h48 : ¬ (tolT l (nu.getD 0 0) (nu.getD 1 0) (gs.getD 0 (0, ([], ()))).1 (gs.getD 0 (0, ([], ()))).2.1 = true) := h48
         refine ⟨fun h56 => ?_, fun h56 => absurd h56 (show ¬ ((tolE l (nu.getD 0 0) (nu.getD 1 0) (gs.getD 0 (0, ([], ()))).1 (gs.getD 0 (0, ([], ()))).2.1) ≠ 0) by first | omega | assumption | simp_all)⟩
         refine ⟨fun h57 => absurd (show ¬ (tolT l (nu.getD 0 0) (nu.getD 1 0) (gs.getD 0 (0, ([], ()))).1 (gs.getD 0 (0, ([], ()))).2.1 = true) by first | omega | assumption | simp_all) h57, fun h57 => ?_⟩
         refine ⟨trivial, ?_⟩
         exact ⟨rfl, rfl, congrArg V.b (propext ⟨fun _ => trivial, fun _ => by first | trivial | rfl⟩), rfl⟩
       ·replace h47 : ¬ ((tolE l (nu.getD 0 0) (min (nu.getD 1 0) (nu.getD 2 0)) (iOr .i64 (gs.getD 0 (0, ([], ()))).1 (gs.getD 1 (0, ([], ()))).1) ((([] : List (Int × (Int × Unit))) ++ (gs.getD 0 (0, ([], ()))).2.1) ++ (gs.getD 1 (0, ([], ()))).2.1)) = 0) := h47
        refine ⟨fun h58 => ?_, fun h58 => absurd h58 (show ¬ ((tolE l (nu.getD 0 0) (nu.getD 1 0) (gs.getD 0 (0, ([], ()))).1 (gs.getD 0 (0, ([], ()))).2.1) ≠ 0) by first | omega | assumption | simp_all)⟩
        refine ⟨fun h59 => ?_, fun h59 => ?_⟩
        ·replace h59 : ¬ (¬ (tolT l (nu.getD 0 0) (nu.getD 1 0) (gs.getD 0 (0, ([], ()))).1 (gs.getD 0 (0, ([], ()))).2.1 = true)) := h59
         refine ⟨fun h60 => ?_, fun h60 => ?_⟩
         ·replace h60 : (gs.getD 0 (0, ([], ()))).1 ≠ 0 := h60
          refine ⟨trivial, ?_⟩
          exact ⟨rfl, rfl, congrArg V.b (propext ⟨fun _ => trivial, fun _ => by first | trivial | rfl⟩), rfl⟩
         ·replace h60 : ¬ ((gs.getD 0 (0, ([], ()))).1 ≠ 0) := h60
          refine ⟨8, [(0, .k), (7, .k), (144, .k), (145, .k), (146, .k)], fun nM vs H => ∃ (k : Nat), k ≤ (gs.getD 0 (0, ([], ()))).2.1.length ∧ (∀ x ∈ (gs.getD 0 (0, ([], ()))).2.1.take k, ¬ (askE l (nu.getD 0 0) x.2.1 0 1000000 = 0 ∧ 0 < (((atL l (nu.getD 0 0) x.2.1).length : Nat) : Int))) ∧ nM = (gs.getD 0 (0, ([], ()))).2.1.length - k ∧ vs = [.sl false (.cons (.int .i64) (.cons (.int .i64) (.cons (.int .i64) (.cons (.sl (.int .i64)) (.cons (.int .i64) (.cons (.int .i64) (.cons (.int .i64) (.cons (.int .i64) (.cons (.int .i64) (.cons (.int .i64) .nil)))))))))) l, .int .i64 (nu.getD 0 0), .sl false (.cons (.int .i64) (.cons (.int .i64) .nil)) (gs.getD 0 (0, ([], ()))).2.1, .int .i64 (((gs.getD 0 (0, ([], ()))).2.1.length : Nat) : Int), .int .i64 (k : Int)] ∧ H = [.row true (.int .i64) nu, .row false (.cons (.int .i64) (.cons (.sl (.cons (.int .i64) (.cons (.int .i64) .nil))) .nil)) gs, .cells [.int .i64 (gs.getD 0 (0, ([], ()))).1, .sl false (.cons (.int .i64) (.cons (.int .i64) .nil)) (gs.getD 0 (0, ([], ()))).2.1], .cells [.int .i64 (gs.getD 1 (0, ([], ()))).1, .sl false (.cons (.int .i64) (.cons (.int .i64) .nil)) (gs.getD 1 (0, ([], ()))).2.1], .cells [.int .i64 (iOr .i64 (gs.getD 0 (0, ([], ()))).1 (gs.getD 1 (0, ([], ()))).1), .own (.cons (.int .i64) (.cons (.int .i64) .nil)) 5], .row true (.cons (.int .i64) (.cons (.int .i64) .nil)) ((([] : List (Int × (Int × Unit))) ++ (gs.getD 0 (0, ([], ()))).2.1) ++ (gs.getD 1 (0, ([], ()))).2.1), .row true (.int .i64) (hasL l (gs.getD 0 (0, ([], ()))).1 (gs.getD 0 (0, ([], ()))).2.1), .row true (.int .i64) (hasL l (iOr .i64 (gs.getD 0 (0, ([], ()))).1 (gs.getD 1 (0, ([], ()))).1) ((([] : List (Int × (Int × Unit))) ++ (gs.getD 0 (0, ([], ()))).2.1) ++ (gs.getD 1 (0, ([], ()))).2.1))], ⟨rfl, (gs.getD 0 (0, ([], ()))).2.1.length, 0, by omega, by simp, by omega, rfl, rfl⟩, ?_⟩
          rintro nM vs H ⟨k, hc7_0, hc7_1, rfl, rfl, rfl⟩
          refine ⟨fun h61 => ?_, fun h61 => ?_⟩
          ·replace h61 : (k : Int) < (((gs.getD 0 (0, ([], ()))).2.1.length : Nat) : Int) := h61
           refine ⟨⟨by show (0 : Int) ≤ (k : Int); omega, by show (k : Int) < ((gs.getD 0 (0, ([], ()))).2.1.length : Int); omega⟩, ⟨rfl, rfl, rfl, Nat.le_of_ble_eq_true rfl⟩, rfl, rfl, ⟨by show l.length ≤ 1048576; first | omega | assumption, by first | assumption | simp⟩, fun h62 => ?_, fun h62 => ?_⟩
           ·replace h62 : (askE l (nu.getD 0 0) ((gs.getD 0 (0, ([], ()))).2.1.getD k (0, (0, ()))).2.1 0 1000000) = 0 := h62
            refine ⟨fun h63 => ?_, fun h63 => ?_⟩
            ·replace h63 : 0 < (((atL l (nu.getD 0 0) ((gs.getD 0 (0, ([], ()))).2.1.getD k (0, (0, ()))).2.1).length : Nat) : Int) := h63
             refine ⟨trivial, ?_⟩
             exact ⟨rfl, rfl, congrArg V.b (propext ⟨fun _ => trivial, fun _ => by first | trivial | rfl⟩), rfl⟩
            ·replace h63 : ¬ (0 < (((atL l (nu.getD 0 0) ((gs.getD 0 (0, ([], ()))).2.1.getD k (0, (0, ()))).2.1).length : Nat) : Int)) := h63
             refine ⟨⟨by show (-9223372036854775808 : Int) ≤ ((k : Int) + 1); omega, by show ((k : Int) + 1) ≤ (9223372036854775807 : Int); omega⟩, ?_⟩
             exact ⟨rfl, (gs.getD 0 (0, ([], ()))).2.1.length - (k + 1), by omega, k + 1, by omega, all_nextG (d := (0, (0, ()))) (p := fun x : (Int × (Int × Unit)) => ¬ (askE l (nu.getD 0 0) x.2.1 0 1000000 = 0 ∧ 0 < (((atL l (nu.getD 0 0) x.2.1).length : Nat) : Int))) (by omega) (by assumption) (by first | exact fun g => absurd g.1 (by assumption) | exact fun g => absurd g.2 (by assumption)), rfl, rfl, rfl⟩
           ·replace h62 : ¬ ((askE l (nu.getD 0 0) ((gs.getD 0 (0, ([], ()))).2.1.getD k (0, (0, ()))).2.1 0 1000000) = 0) := h62
            refine ⟨⟨by show (-9223372036854775808 : Int) ≤ ((k : Int) + 1); omega, by show ((k : Int) + 1) ≤ (9223372036854775807 : Int); omega⟩, ?_⟩
            exact ⟨rfl, (gs.getD 0 (0, ([], ()))).2.1.length - (k + 1), by omega, k + 1, by omega, all_nextG (d := (0, (0, ()))) (p := fun x : (Int × (Int × Unit)) => ¬ (askE l (nu.getD 0 0) x.2.1 0 1000000 = 0 ∧ 0 < (((atL l (nu.getD 0 0) x.2.1).length : Nat) : Int))) (by omega) (by assumption) (by first | exact fun g => absurd g.1 (by assumption) | exact fun g => absurd g.2 (by assumption)), rfl, rfl, rfl⟩
          ·replace h61 : ¬ ((k : Int) < (((gs.getD 0 (0, ([], ()))).2.1.length : Nat) : Int)) := h61
           exact ⟨rfl, rfl, congrArg V.b (propext ⟨fun _ => trivial, fun _ => (tel_some (l := l) (o := (nu.getD 0 0)) (n := (nu.getD 1 0)) (bad := (gs.getD 0 (0, ([], ()))).1) (cs := (gs.getD 0 (0, ([], ()))).2.1) (k := k) (by assumption) (by assumption) (by assumption) (by assumption) (by omega)).elim⟩), rfl⟩
        ·replace h59 : ¬ (tolT l (nu.getD 0 0) (nu.getD 1 0) (gs.getD 0 (0, ([], ()))).1 (gs.getD 0 (0, ([], ()))).2.1 = true) := h59
         refine ⟨trivial, ?_⟩
         exact ⟨rfl, rfl, congrArg V.b (propext ⟨fun _ => trivial, fun _ => by first | trivial | rfl⟩), rfl⟩
      ·replace h46 : ¬ ((tolE l (nu.getD 0 0) (nu.getD 1 0) (gs.getD 0 (0, ([], ()))).1 (gs.getD 0 (0, ([], ()))).2.1) = 0) := h46
       refine ⟨fun h64 => absurd (show (tolE l (nu.getD 0 0) (nu.getD 1 0) (gs.getD 0 (0, ([], ()))).1 (gs.getD 0 (0, ([], ()))).2.1) ≠ 0 by first | omega | assumption | simp_all) h64, fun h64 => ?_⟩
       refine ⟨trivial, ?_⟩
       exact ⟨rfl, rfl, congrArg V.b (propext ⟨fun _ => trivial, fun _ => by first | trivial | rfl⟩), rfl⟩
   ·replace h2 : 10 < (((gs.getD 0 (0, ([], ()))).2.1.length : Nat) : Int) := h2
    refine ⟨trivial, ?_⟩
    exact ⟨rfl, rfl, congrArg V.b (propext ⟨fun _ => trivial, fun _ => by first | trivial | rfl⟩), rfl⟩
  ·replace h1 : (chkL l) ≠ 0 := h1
   refine ⟨trivial, ?_⟩
   exact ⟨rfl, rfl, congrArg V.b (propext ⟨fun _ => trivial, fun _ => by first | trivial | rfl⟩), rfl⟩
 ·replace h0 : ¬ (fewA l 30) := h0
  refine ⟨trivial, ?_⟩
  exact ⟨rfl, rfl, congrArg V.b (propext ⟨fun _ => trivial, fun _ => by first | trivial | rfl⟩), rfl⟩
end Go.Proofs.Ytgljcfnplkcfhaa.S38

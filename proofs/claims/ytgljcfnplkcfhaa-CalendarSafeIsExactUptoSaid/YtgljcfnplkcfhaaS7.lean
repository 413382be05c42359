/- Texts of this claim: S29.L5, S29.Cd0. -/
import Derived.Test.YtgljcfnplkcfhaaS6
import Derived.Test.YtgljcfnplkcfhaaRows
import Derived.WalkKit
import Derived.ProofKit
import Derived.OpenShut
import Derived.Deep.DeepHandedRow
import Derived.Lib.LaidTab
import Derived.Test.YtgljcfnplkcfhaaVc6
import Derived.Test.YtgljcfnplkcfhaaS0
set_option linter.unusedVariables false
set_option linter.unusedSimpArgs false
namespace Go.Proofs.Ytgljcfnplkcfhaa.S29
open Go Go.Proofs.Ytgljcfnplkcfhaa.Vc Go.Proofs
set_option maxRecDepth 100000
set_option linter.unusedVariables false

def sAlw : List V → Option (Prop × V × List Blk)
  | [.sl false (.cons (.int .i64) (.cons (.int .i64) .nil)) a, .int .i64 w, .int .i64 mo] => some (a.length ≤ 500 ∧ (∀ x ∈ a, capB x = true) ∧ 0 ≤ w ∧ w ≤ 1000000, .b (alwB a w mo = true), [])
  | _ => none
set_option maxHeartbeats 1000000 in
theorem bAlw (a : List (Int × (Int × Unit))) (w : Int) (mo : Int) (hp0 : a.length ≤ 500) (hp1 : (∀ x ∈ a, capB x = true)) (hp2 : 0 ≤ w) (hp3 : w ≤ 1000000) : bodyP (En CRSaf tys [] QAt) Try.f43 [.k] [.sl false (.cons (.int .i64) (.cons (.int .i64) .nil)) a, .int .i64 w, .int .i64 mo] (.b (alwB a w mo = true)) [] := by
  refine ⟨0, [(0, .k), (1, .k), (2, .k), (12, .k), (13, .k), (14, .k)], fun n vs H => ∃ (k : Nat), k ≤ a.length ∧ (a.drop k).all (fun x => decide ((winC a x.2.1 w : Int) ≤ mo)) = a.all (fun x => decide ((winC a x.2.1 w : Int) ≤ mo)) ∧ n = a.length - k ∧ vs = [.sl false (.cons (.int .i64) (.cons (.int .i64) .nil)) a, .int .i64 w, .int .i64 mo, .sl false (.cons (.int .i64) (.cons (.int .i64) .nil)) a, .int .i64 (a.length : Int), .int .i64 (k : Int)] ∧ H = [], ⟨rfl, a.length, 0, by omega, rfl, by omega, rfl, rfl⟩, ?_⟩
  rintro n vs H ⟨k, hc1_0, hc1_1, rfl, rfl, rfl⟩
  refine ⟨fun h0 => ?_, fun h0 => ?_⟩
  · replace h0 : (k : Int) < (a.length : Int) := h0  -- 0t
    have hk : k < a.length := by omega
    have hcb := capB_ok (hp1 _ (getD_mem (0, (0, ())) a k hk))
    refine ⟨⟨by show (0 : Int) ≤ (k : Int); omega, by show (k : Int) < (a.length : Int); omega⟩ /- o0 -/, ⟨rfl, rfl, rfl, Nat.le_of_ble_eq_true rfl⟩ /- o1 -/, 1, [(0, .k), (1, .k), (2, .k), (8, .k), (9, .k), (12, .k), (13, .k), (14, .k), (18, .k), (19, .k), (20, .k)], fun n vs H => ∃ (j : Nat), j ≤ a.length ∧ n = a.length - j ∧ vs = [.sl false (.cons (.int .i64) (.cons (.int .i64) .nil)) a, .int .i64 w, .int .i64 mo, .ptr 0 1 0 0, .int .i64 (winC (a.take j) (a.getD k (0, (0, ()))).2.1 w : Int), .sl false (.cons (.int .i64) (.cons (.int .i64) .nil)) a, .int .i64 (a.length : Int), .int .i64 (k : Int), .sl false (.cons (.int .i64) (.cons (.int .i64) .nil)) a, .int .i64 (a.length : Int), .int .i64 (j : Int)] ∧ H = [.cells [.int .i64 ((a.getD k (0, (0, ()))).1), .int .i64 (((a.getD k (0, (0, ()))).2).1)]], ⟨rfl, a.length, 0, by omega, by omega, rfl, rfl⟩, ?_⟩
    rintro n vs H ⟨j, hc2_0, rfl, rfl, rfl⟩
    refine ⟨fun h1 => ?_, fun h1 => ?_⟩
    · replace h1 : (j : Int) < (a.length : Int) := h1  -- 1t
      have hj : j < a.length := by omega
      have hwl := winC_le (a.take j) (a.getD k (0, (0, ()))).2.1 w
      rw [List.length_take] at hwl
      have e : winC (a.take (j + 1)) (a.getD k (0, (0, ()))).2.1 w = _ := countP_snoc (0, (0, ())) (winP (a.getD k (0, (0, ()))).2.1 w) a hj
      refine ⟨⟨by show (0 : Int) ≤ (j : Int); omega, by show (j : Int) < (a.length : Int); omega⟩ /- o2 -/, ⟨rfl, rfl, rfl, Nat.le_of_ble_eq_true rfl⟩ /- o3 -/, fun h2 => ?_, fun h2 => ?_⟩
      · replace h2 : (((a.getD k (0, (0, ()))).2).1) ≤ (((a.getD j (0, (0, ()))).2).1) := h2  -- 2t
        refine ⟨⟨by show (-9223372036854775808 : Int) ≤ ((((a.getD k (0, (0, ()))).2).1) + w); omega, by show ((((a.getD k (0, (0, ()))).2).1) + w) ≤ (9223372036854775807 : Int); omega⟩ /- o4 -/, fun h3 => ?_, fun h3 => ?_⟩
        · replace h3 : (((a.getD j (0, (0, ()))).2).1) < ((((a.getD k (0, (0, ()))).2).1) + w) := h3  -- 3t
          have ev : (winC (a.take (j + 1)) (a.getD k (0, (0, ()))).2.1 w : Int) = (winC (a.take j) (a.getD k (0, (0, ()))).2.1 w : Int) + 1 := by rw [e, if_pos (show winP (a.getD k (0, (0, ()))).2.1 w (a.getD j (0, (0, ()))) = true from decide_eq_true ⟨h2, h3⟩)]; rfl
          refine ⟨⟨by show (-9223372036854775808 : Int) ≤ ((winC (a.take j) (a.getD k (0, (0, ()))).2.1 w : Int) + 1); omega, by show ((winC (a.take j) (a.getD k (0, (0, ()))).2.1 w : Int) + 1) ≤ (9223372036854775807 : Int); omega⟩ /- o5 -/, ⟨by show (-9223372036854775808 : Int) ≤ ((j : Int) + 1); omega, by show ((j : Int) + 1) ≤ (9223372036854775807 : Int); omega⟩ /- o6 -/, ?_⟩
          exact ⟨rfl, a.length - (j + 1), by omega, j + 1, by omega, rfl, by rw [ev]; rfl, rfl⟩
        · replace h3 : ¬ ((((a.getD j (0, (0, ()))).2).1) < ((((a.getD k (0, (0, ()))).2).1) + w)) := h3  -- 3f
          have ev : (winC (a.take (j + 1)) (a.getD k (0, (0, ()))).2.1 w : Int) = (winC (a.take j) (a.getD k (0, (0, ()))).2.1 w : Int) := by rw [e, if_neg (by rw [show winP (a.getD k (0, (0, ()))).2.1 w (a.getD j (0, (0, ()))) = false from decide_eq_false (fun g => h3 g.2)]; decide), Nat.add_zero]; rfl
          refine ⟨⟨by show (-9223372036854775808 : Int) ≤ ((j : Int) + 1); omega, by show ((j : Int) + 1) ≤ (9223372036854775807 : Int); omega⟩ /- o7 -/, ?_⟩
          exact ⟨rfl, a.length - (j + 1), by omega, j + 1, by omega, rfl, by rw [ev]; rfl, rfl⟩
      · replace h2 : ¬ ((((a.getD k (0, (0, ()))).2).1) ≤ (((a.getD j (0, (0, ()))).2).1)) := h2  -- 2f
        have ev : (winC (a.take (j + 1)) (a.getD k (0, (0, ()))).2.1 w : Int) = (winC (a.take j) (a.getD k (0, (0, ()))).2.1 w : Int) := by rw [e, if_neg (by rw [show winP (a.getD k (0, (0, ()))).2.1 w (a.getD j (0, (0, ()))) = false from decide_eq_false (fun g => h2 g.1)]; decide), Nat.add_zero]; rfl
        refine ⟨⟨by show (-9223372036854775808 : Int) ≤ ((j : Int) + 1); omega, by show ((j : Int) + 1) ≤ (9223372036854775807 : Int); omega⟩ /- o8 -/, ?_⟩
        exact ⟨rfl, a.length - (j + 1), by omega, j + 1, by omega, rfl, by rw [ev]; rfl, rfl⟩
    · replace h1 : ¬ ((j : Int) < (a.length : Int)) := h1  -- 1f
      refine ⟨fun h4 => ?_, fun h4 => ?_⟩
      · replace h4 : mo < (winC (a.take j) (a.getD k (0, (0, ()))).2.1 w : Int) := h4  -- 4t
        rw [show j = a.length by omega, List.take_length] at h4
        -- leaf 0: ['.b (false = true)'] | ['.cells [.int .i64 ((a.getD k (0, (0, ()))).1), .int .i64 (((a.getD k (0, (0, ()))).2).1)]']
        have e0 : alwB a w mo = false := all_bad (d := (0, (0, ()))) hk hc1_1 (decide_eq_false (by omega))
        rw [e0]
        exact ⟨rfl, rfl, rfl, rfl⟩
      · replace h4 : ¬ (mo < (winC (a.take j) (a.getD k (0, (0, ()))).2.1 w : Int)) := h4  -- 4f
        rw [show j = a.length by omega, List.take_length] at h4
        refine ⟨⟨by show (-9223372036854775808 : Int) ≤ ((k : Int) + 1); omega, by show ((k : Int) + 1) ≤ (9223372036854775807 : Int); omega⟩ /- o9 -/, ?_⟩
        exact ⟨rfl, a.length - (k + 1), by omega, k + 1, by omega, all_next (d := (0, (0, ()))) hk hc1_1 (decide_eq_true (by omega)), rfl, rfl, rfl⟩
  · replace h0 : ¬ ((k : Int) < (a.length : Int)) := h0  -- 0f
    -- leaf 1: ['.b (true = true)'] | []
    rw [show alwB a w mo = true from all_end (by omega) hc1_1]
    exact ⟨rfl, rfl, rfl, rfl⟩
def CAlw : List (Nat × Con) := (43, pureC [.v (.sl (.cons (.int .i64) (.cons (.int .i64) .nil))), .v (.int .i64), .v (.int .i64)] sAlw) :: CRSaf
theorem kAlw : Known Try.prog (En CAlw tys [] QAt) := kRSaf.add Try.func43 Try.call43 [.k] fun ds p v bs h hp => by
  unfold sAlw at h
  split at h <;> simp only [Option.some.injEq, Prod.mk.injEq, reduceCtorEq] at h
  obtain ⟨rfl, rfl, rfl⟩ := h
  exact bAlw _ _ _ hp.1 hp.2.1 hp.2.2.1 hp.2.2.2
def sLSafe : List V → Option (Prop × V × List Blk)
  | [.agg [.int .i64 b, .int .i64 l, .int .i64 d, .int .i64 m, .sl false (.int .i64) hs], .dat false (.arr 3 (.int .i64)) nu, .sl false (.cons (.int .i64) (.cons (.int .i64) .nil)) a] => some (hs.length ≤ 1048576 ∧ nu.length = 3 ∧ a.length ≤ 1048576, .b True, [])
  | _ => none
set_option maxHeartbeats 4000000 in
theorem bLSafe (b : Int) (l : Int) (d : Int) (m : Int) (hs : List Int) (nu : List Int) (a : List (Int × (Int × Unit))) (hp0 : hs.length ≤ 1048576) (hp1 : nu.length = 3) (hp2 : a.length ≤ 1048576) : bodyP (En CAlw tys [] QAt) Try.f7 [.k] [.agg [.int .i64 b, .int .i64 l, .int .i64 d, .int .i64 m, .sl false (.int .i64) hs], .dat false (.arr 3 (.int .i64)) nu, .sl false (.cons (.int .i64) (.cons (.int .i64) .nil)) a] (.b True) [] := by
  refine ⟨⟨rfl, by first | assumption | simp⟩ /- o0 -/, by kernel_rfl /- o1 -/, ⟨by show (0 : Int) ≤ 0; omega, by show 0 < (3 : Int); omega, by first | assumption | simp⟩ /- o2 -/, ⟨by show (0 : Int) ≤ 1; omega, by show 1 < (3 : Int); omega, by first | assumption | simp⟩ /- o3 -/, ⟨by show (0 : Int) ≤ 2; omega, by show 2 < (3 : Int); omega, by first | assumption | simp⟩ /- o4 -/, rfl /- o5 -/, rfl /- o6 -/, rfl /- o7 -/, rfl /- o8 -/, by show hs.length ≤ 2000000; first | omega | assumption /- o9 -/, fun h0 => ?_, fun h0 => ?_⟩
  · replace h0 : ¬ ((chkL b l d m hs) ≠ 0) := h0  -- 0f
    refine ⟨rfl /- o10 -/, rfl /- o11 -/, rfl /- o12 -/, rfl /- o13 -/, rfl /- o14 -/, by show hs.length ≤ 2000000; first | omega | assumption /- o15 -/, fun h1 => ?_, fun h1 => ?_⟩
    · replace h1 : ¬ (¬ (fewP b l d m hs 40)) := h1  -- 1f
      refine ⟨fun h2 => ?_, fun h2 => ?_⟩
      · replace h2 : 40 < (a.length : Int) := h2  -- 2t
        refine ⟨trivial /- o16 -/, ?_⟩
        -- leaf 0: ['.b True'] | ['.cells [.int .i64 b, .int .i64 l, .int .i64 d, .int .i64 m, .sl false (.int .i64) hs]', '.row true (.int .i64) nu']
        exact ⟨rfl, rfl, congrArg V.b (propext ⟨fun _ => trivial, fun _ => by first | trivial | rfl⟩), rfl⟩
      · replace h2 : ¬ (40 < (a.length : Int)) := h2  -- 2f
        refine ⟨rfl /- o17 -/, rfl /- o18 -/, rfl /- o19 -/, rfl /- o20 -/, rfl /- o21 -/, rfl /- o22 -/, rfl /- o23 -/, by show hs.length ≤ 2000000; first | omega | assumption /- o24 -/, fun h3 => ?_, fun h3 => ?_⟩
        · replace h3 : (safE b l d m hs (nu.getD 0 0) (nu.getD 1 0) (nu.getD 2 0)) ≠ 0 := h3  -- 3t
          refine ⟨trivial /- o25 -/, fun h4 => ?_, fun h4 => absurd (show True by trivial) h4⟩
          -- leaf 1: ['.b (¬ (safL b l d m hs (nu.getD 0 0) (nu.getD 1 0) (nu.getD 2 0) = true))'] | ['.cells [.int .i64 b, .int .i64 l, .int .i64 d, .int .i64 m, .sl false (.int .i64) hs]', '.row true (.int .i64) nu']
          exact ⟨rfl, rfl, congrArg V.b (propext ⟨fun _ => trivial, fun _ => safe_no h3⟩), rfl⟩
        · replace h3 : ¬ ((safE b l d m hs (nu.getD 0 0) (nu.getD 1 0) (nu.getD 2 0)) ≠ 0) := h3  -- 3f
          have hc := chk0 (Classical.not_not.1 h0)
          obtain ⟨q1, q2, q3, q4, q5, q6, q7, q8, q9, q10, q11⟩ := id hc
          obtain ⟨hb0, hb1, hw1, hw2, hm0, hm1⟩ := safe0 (Classical.not_not.1 h3)
          have hnn : (if chkL b l d m hs = 0 then cntL b l d else 0) = cntL b l d := if_pos hc.chk
          refine ⟨rfl /- o26 -/, rfl /- o27 -/, rfl /- o28 -/, rfl /- o29 -/, rfl /- o30 -/, ⟨by show hs.length ≤ 2000000; first | omega | assumption /- o31 -/, by show a.length ≤ 2000000; first | omega | assumption /- o32 -/⟩, fun h5 => ?_, fun h5 => ?_⟩
          · replace h5 : safL b l d m hs (nu.getD 0 0) (nu.getD 1 0) (nu.getD 2 0) = true := h5  -- 5t
            refine ⟨trivial /- o33 -/, fun h6 => ?_, fun h6 => absurd (show True by trivial) h6⟩
            refine ⟨fun h7 => ?_, fun h7 => ?_⟩
            · replace h7 : ¬ ((redL b l d m hs (nu.getD 0 0) a) ≠ 0) := h7  -- 7f
              obtain ⟨_, _, _, hca1, hca2⟩ := red0 (Classical.not_not.1 h7)
              refine ⟨rfl /- o34 -/, rfl /- o35 -/, ⟨by show a.length ≤ 500; first | omega | assumption /- o36 -/, by first | assumption | simp /- o37 -/, by show 0 ≤ (nu.getD 1 0); first | omega | assumption /- o38 -/, by show (nu.getD 1 0) ≤ 1000000; first | omega | assumption /- o39 -/⟩, fun h8 => ?_, fun h8 => ?_⟩
              · replace h8 : ¬ (¬ (alwB a (nu.getD 1 0) (nu.getD 2 0) = true)) := h8  -- 8f
                -- leaf 2: ['.b ((((telL b l d m hs (nu.getD 0 0) a).length : Nat) : Int) = 0)'] | ['.cells [.int .i64 b, .int .i64 l, .int .i64 d, .int .i64 m, .sl false (.int .i64) hs]', '.row true (.int .i64) nu', '.row true (.int .i64) (telL b l d m hs (nu.getD 0 0) a)']
                exact ⟨rfl, rfl, congrArg V.b (propext ⟨fun _ => trivial, fun _ => congrArg (fun s : List Int => ((s.length : Nat) : Int)) (safe_told h5 (Classical.not_not.1 h7) (Classical.not_not.1 h8))⟩), rfl⟩
              · replace h8 : ¬ (alwB a (nu.getD 1 0) (nu.getD 2 0) = true) := h8  -- 8t
                -- leaf 3: ['.b (true = true)'] | ['.cells [.int .i64 b, .int .i64 l, .int .i64 d, .int .i64 m, .sl false (.int .i64) hs]', '.row true (.int .i64) nu', '.row true (.int .i64) (telL b l d m hs (nu.getD 0 0) a)']
                exact ⟨rfl, rfl, congrArg V.b (propext ⟨fun _ => trivial, fun _ => by first | trivial | rfl⟩), rfl⟩
            · replace h7 : (redL b l d m hs (nu.getD 0 0) a) ≠ 0 := h7  -- 7t
              -- leaf 4: ['.b (true = true)'] | ['.cells [.int .i64 b, .int .i64 l, .int .i64 d, .int .i64 m, .sl false (.int .i64) hs]', '.row true (.int .i64) nu', '.row true (.int .i64) (telL b l d m hs (nu.getD 0 0) a)']
              exact ⟨rfl, rfl, congrArg V.b (propext ⟨fun _ => trivial, fun _ => by first | trivial | rfl⟩), rfl⟩
          · replace h5 : ¬ (safL b l d m hs (nu.getD 0 0) (nu.getD 1 0) (nu.getD 2 0) = true) := h5  -- 5f
            refine ⟨rfl /- o40 -/, rfl /- o41 -/, rfl /- o42 -/, rfl /- o43 -/, by show hs.length ≤ 2000000; first | omega | assumption /- o44 -/, 3, [(3, .k), (7, .k), (8, .k), (9, .k), (86, .k), (87, .k)], fun n vs H => ∃ (q : Nat), (q : Int) ≤ cntL b l d ∧ (List.range q).all (safQ b l d m hs (nu.getD 0 0) (nu.getD 1 0) (nu.getD 2 0)) = true ∧ n = (cntL b l d).toNat - q ∧ vs = [.ptr 0 1 0 0, .int .i64 (nu.getD 0 0), .int .i64 (nu.getD 1 0), .int .i64 (nu.getD 2 0), .int .i64 (if chkL b l d m hs = 0 then cntL b l d else 0), .int .i64 (q : Int)] ∧ H = [.cells [.int .i64 b, .int .i64 l, .int .i64 d, .int .i64 m, .sl false (.int .i64) hs], .row true (.int .i64) nu, .row true (.int .i64) (telL b l d m hs (nu.getD 0 0) a)], ⟨rfl, (cntL b l d).toNat, 0, by omega, rfl, by omega, rfl, rfl⟩, ?_⟩
            rintro n vs H ⟨q, hc1_0, hc1_1, rfl, rfl, rfl⟩
            refine ⟨fun h9 => ?_, fun h9 => ?_⟩
            · replace h9 : (q : Int) < (if chkL b l d m hs = 0 then cntL b l d else 0) := h9  -- 9t
              rw [hnn] at h9
              have ea : askL b l d m hs (q : Int) = 0 := hc.ask (by omega) h9
              have hTo : (if askL b l d m hs (q : Int) = 0 then expT b l d (q : Int) else 0) = expT b l d (q : Int) := if_pos ea
              have hFr : (if askL b l d m hs (q : Int) = 0 then expF b d (q : Int) else 0) = expF b d (q : Int) := if_pos ea
              obtain ⟨w1, w2, w3, w4, w5, w6, w7⟩ := win_ok (w := (nu.getD 1 0)) (mo := (nu.getD 2 0)) hc hw1 hm0 hm1 h9
              refine ⟨rfl /- o45 -/, rfl /- o46 -/, rfl /- o47 -/, rfl /- o48 -/, rfl /- o49 -/, by show hs.length ≤ 2000000; first | omega | assumption /- o50 -/, fun h10 => absurd h10 (show ¬ ((askL b l d m hs (q : Int)) ≠ 0) by exact fun h => h ea), fun h10 => ?_⟩
              refine ⟨3, [(3, .k), (7, .k), (8, .k), (9, .k), (16, .k), (18, .o (.cons (.int .i64) (.cons (.int .i64) .nil))), (19, .k), (20, .k), (86, .k), (87, .k), (101, .k), (102, .k), (103, .k)], fun n vs H => ∃ (i : Nat) (M : List (Int × (Int × Unit))) (T N : Int), i ≤ hs.length ∧ 0 ≤ N ∧ N ≤ (nu.getD 2 0) ∧ 0 ≤ T ∧ T ≤ (min (expT b l d (q : Int)) 1000000) + (nu.getD 1 0) ∧ M.length ≤ i ∧ (N = 0 ∨ T ≤ (min (expT b l d (q : Int)) 1000000)) ∧ M ++ madeF (nu.getD 0 0) (nu.getD 1 0) (nu.getD 2 0) (min (expT b l d (q : Int)) 1000000) (hs.drop i) T N = madeL b l d hs (nu.getD 0 0) (nu.getD 1 0) (nu.getD 2 0) q ∧ n = hs.length - i ∧ vs = [.ptr 0 1 0 0, .int .i64 (nu.getD 0 0), .int .i64 (nu.getD 1 0), .int .i64 (nu.getD 2 0), .int .i64 (if askL b l d m hs (q : Int) = 0 then expT b l d (q : Int) else 0), .own (.cons (.int .i64) (.cons (.int .i64) .nil)) 3, .int .i64 T, .int .i64 N, .int .i64 (if chkL b l d m hs = 0 then cntL b l d else 0), .int .i64 (q : Int), .sl false (.int .i64) hs, .int .i64 (hs.length : Int), .int .i64 (i : Int)] ∧ H = [.cells [.int .i64 b, .int .i64 l, .int .i64 d, .int .i64 m, .sl false (.int .i64) hs], .row true (.int .i64) nu, .row true (.int .i64) (telL b l d m hs (nu.getD 0 0) a), .row true (.cons (.int .i64) (.cons (.int .i64) .nil)) M], ⟨rfl, hs.length, 0, [], expF b d (q : Int), 0, by omega, by omega, by omega, by omega, by omega, by simp, .inl rfl, rfl, by omega, by rw [hFr]; rfl, rfl⟩, ?_⟩
              rintro n vs H ⟨i, M, T, N, hc2_0, hc2_1, hc2_2, hc2_3, hc2_4, hc2_5, hc2_6, hc2_7, rfl, rfl, rfl⟩
              refine ⟨fun h11 => ?_, fun h11 => ?_⟩
              · replace h11 : (i : Int) < (hs.length : Int) := h11  -- 11t
                have hil : i < hs.length := by omega
                obtain ⟨g1, g2⟩ := hsF_at hs _ i q8 hil
                have hpos := sh_nonneg hb0 (hs.getD i 0).toNat
                rw [drop_one 0 hs i hil, madeF] at hc2_7
                refine ⟨⟨by show (0 : Int) ≤ (i : Int); omega, by show (i : Int) < (hs.length : Int); omega⟩ /- o51 -/, ⟨by show (0 : Int) ≤ hs.getD i 0; omega, by show hs.getD i 0 ≤ (64 : Int); omega⟩ /- o52 -/, ⟨by show (0 : Int) ≤ ((nu.getD 0 0) / 2 ^ ((hs.getD i 0).toNat)); omega, by show (0 : Int) ≤ 1; omega⟩ /- o53 -/, fun h12 => ?_, fun h12 => ?_⟩
                · replace h12 : ¬ (((((nu.getD 0 0) / 2 ^ ((hs.getD i 0).toNat)).toNat &&& 1 : Nat) : Int) = 1) := h12  -- 12f
                  have hbt : ¬ bitB (nu.getD 0 0) (hs.getD i 0).toNat = true := fun g => h12 (by have g2 := of_decide_eq_true g; rw [← bit_and _ hpos] at g2; exact g2)
                  refine ⟨fun h13 => ?_, fun h13 => ?_⟩
                  · replace h13 : (nu.getD 2 0) = 0 := h13  -- 13t
                    rw [if_pos (.inr h13)] at hc2_7
                    have em := hc2_7
                    refine ⟨⟨by show (-9223372036854775808 : Int) ≤ ((i : Int) + 1); omega, by show ((i : Int) + 1) ≤ (9223372036854775807 : Int); omega⟩ /- o54 -/, ?_⟩
                    first
                    | exact ⟨rfl, hs.length - (i + 1), by omega, i + 1, M, T, N, by omega, by omega, by omega, by omega, by omega, by first | omega | (rw [List.length_append, List.length_cons, List.length_nil]; omega), by omega, em, rfl, rfl, rfl⟩
                    | exact ⟨rfl, hs.length - (i + 1), by omega, i + 1, _, T + (nu.getD 1 0), 1, by omega, by omega, by omega, by omega, by omega, by first | omega | (rw [List.length_append, List.length_cons, List.length_nil]; omega), by omega, em, rfl, rfl, rfl⟩
                    | exact ⟨rfl, hs.length - (i + 1), by omega, i + 1, M, T + (nu.getD 1 0), 0, by omega, by omega, by omega, by omega, by omega, by first | omega | (rw [List.length_append, List.length_cons, List.length_nil]; omega), by omega, em, rfl, rfl, rfl⟩
                    | exact ⟨rfl, hs.length - (i + 1), by omega, i + 1, _, T, N + 1, by omega, by omega, by omega, by omega, by omega, by first | omega | (rw [List.length_append, List.length_cons, List.length_nil]; omega), by omega, em, rfl, rfl, rfl⟩
                  · replace h13 : ¬ ((nu.getD 2 0) = 0) := h13  -- 13f
                    rw [if_neg (fun g => g.elim hbt h13)] at hc2_7
                    refine ⟨fun h14 => ?_, fun h14 => ?_⟩
                    · replace h14 : N = (nu.getD 2 0) := h14  -- 14t
                      rw [if_pos h14] at hc2_7
                      refine ⟨⟨by show (-9223372036854775808 : Int) ≤ (T + (nu.getD 1 0)); omega, by show (T + (nu.getD 1 0)) ≤ (9223372036854775807 : Int); omega⟩ /- o55 -/, fun h15 => ?_, fun h15 => ?_⟩
                      · replace h15 : (T + (nu.getD 1 0)) ≤ (min (if askL b l d m hs (q : Int) = 0 then expT b l d (q : Int) else 0) 1000000) := h15  -- 15t
                        rw [hTo] at h15
                        rw [if_pos h15, List.append_cons] at hc2_7
                        have em := hc2_7
                        refine ⟨rfl /- o56 -/, rfl /- o57 -/, ⟨rfl, rfl⟩ /- o58 -/, by show M.length + ([(hs.getD i 0, (T + (nu.getD 1 0)), ())] : List (Int × (Int × Unit))).length ≤ 1000000000; simp only [List.length_cons, List.length_nil]; omega /- o59 -/, ⟨by show (-9223372036854775808 : Int) ≤ ((0 : Int) + 1); omega, by show ((0 : Int) + 1) ≤ (9223372036854775807 : Int); omega⟩ /- o60 -/, ⟨by show (-9223372036854775808 : Int) ≤ ((i : Int) + 1); omega, by show ((i : Int) + 1) ≤ (9223372036854775807 : Int); omega⟩ /- o61 -/, ?_⟩
                        first
                        | exact ⟨rfl, hs.length - (i + 1), by omega, i + 1, M, T, N, by omega, by omega, by omega, by omega, by omega, by first | omega | (rw [List.length_append, List.length_cons, List.length_nil]; omega), by omega, em, rfl, rfl, rfl⟩
                        | exact ⟨rfl, hs.length - (i + 1), by omega, i + 1, _, T + (nu.getD 1 0), 1, by omega, by omega, by omega, by omega, by omega, by first | omega | (rw [List.length_append, List.length_cons, List.length_nil]; omega), by omega, em, rfl, rfl, rfl⟩
                        | exact ⟨rfl, hs.length - (i + 1), by omega, i + 1, M, T + (nu.getD 1 0), 0, by omega, by omega, by omega, by omega, by omega, by first | omega | (rw [List.length_append, List.length_cons, List.length_nil]; omega), by omega, em, rfl, rfl, rfl⟩
                        | exact ⟨rfl, hs.length - (i + 1), by omega, i + 1, _, T, N + 1, by omega, by omega, by omega, by omega, by omega, by first | omega | (rw [List.length_append, List.length_cons, List.length_nil]; omega), by omega, em, rfl, rfl, rfl⟩
                      · replace h15 : ¬ ((T + (nu.getD 1 0)) ≤ (min (if askL b l d m hs (q : Int) = 0 then expT b l d (q : Int) else 0) 1000000)) := h15  -- 15f
                        rw [hTo] at h15
                        rw [if_neg h15] at hc2_7
                        have em := hc2_7
                        refine ⟨⟨by show (-9223372036854775808 : Int) ≤ ((i : Int) + 1); omega, by show ((i : Int) + 1) ≤ (9223372036854775807 : Int); omega⟩ /- o62 -/, ?_⟩
                        first
                        | exact ⟨rfl, hs.length - (i + 1), by omega, i + 1, M, T, N, by omega, by omega, by omega, by omega, by omega, by first | omega | (rw [List.length_append, List.length_cons, List.length_nil]; omega), by omega, em, rfl, rfl, rfl⟩
                        | exact ⟨rfl, hs.length - (i + 1), by omega, i + 1, _, T + (nu.getD 1 0), 1, by omega, by omega, by omega, by omega, by omega, by first | omega | (rw [List.length_append, List.length_cons, List.length_nil]; omega), by omega, em, rfl, rfl, rfl⟩
                        | exact ⟨rfl, hs.length - (i + 1), by omega, i + 1, M, T + (nu.getD 1 0), 0, by omega, by omega, by omega, by omega, by omega, by first | omega | (rw [List.length_append, List.length_cons, List.length_nil]; omega), by omega, em, rfl, rfl, rfl⟩
                        | exact ⟨rfl, hs.length - (i + 1), by omega, i + 1, _, T, N + 1, by omega, by omega, by omega, by omega, by omega, by first | omega | (rw [List.length_append, List.length_cons, List.length_nil]; omega), by omega, em, rfl, rfl, rfl⟩
                    · replace h14 : ¬ (N = (nu.getD 2 0)) := h14  -- 14f
                      rw [if_neg h14] at hc2_7
                      refine ⟨fun h16 => ?_, fun h16 => ?_⟩
                      · replace h16 : T ≤ (min (if askL b l d m hs (q : Int) = 0 then expT b l d (q : Int) else 0) 1000000) := h16  -- 16t
                        rw [hTo] at h16
                        rw [if_pos h16, List.append_cons] at hc2_7
                        have em := hc2_7
                        refine ⟨rfl /- o63 -/, rfl /- o64 -/, ⟨rfl, rfl⟩ /- o65 -/, by show M.length + ([(hs.getD i 0, T, ())] : List (Int × (Int × Unit))).length ≤ 1000000000; simp only [List.length_cons, List.length_nil]; omega /- o66 -/, ⟨by show (-9223372036854775808 : Int) ≤ (N + 1); omega, by show (N + 1) ≤ (9223372036854775807 : Int); omega⟩ /- o67 -/, ⟨by show (-9223372036854775808 : Int) ≤ ((i : Int) + 1); omega, by show ((i : Int) + 1) ≤ (9223372036854775807 : Int); omega⟩ /- o68 -/, ?_⟩
                        first
                        | exact ⟨rfl, hs.length - (i + 1), by omega, i + 1, M, T, N, by omega, by omega, by omega, by omega, by omega, by first | omega | (rw [List.length_append, List.length_cons, List.length_nil]; omega), by omega, em, rfl, rfl, rfl⟩
                        | exact ⟨rfl, hs.length - (i + 1), by omega, i + 1, _, T + (nu.getD 1 0), 1, by omega, by omega, by omega, by omega, by omega, by first | omega | (rw [List.length_append, List.length_cons, List.length_nil]; omega), by omega, em, rfl, rfl, rfl⟩
                        | exact ⟨rfl, hs.length - (i + 1), by omega, i + 1, M, T + (nu.getD 1 0), 0, by omega, by omega, by omega, by omega, by omega, by first | omega | (rw [List.length_append, List.length_cons, List.length_nil]; omega), by omega, em, rfl, rfl, rfl⟩
                        | exact ⟨rfl, hs.length - (i + 1), by omega, i + 1, _, T, N + 1, by omega, by omega, by omega, by omega, by omega, by first | omega | (rw [List.length_append, List.length_cons, List.length_nil]; omega), by omega, em, rfl, rfl, rfl⟩
                      · replace h16 : ¬ (T ≤ (min (if askL b l d m hs (q : Int) = 0 then expT b l d (q : Int) else 0) 1000000)) := h16  -- 16f
                        rw [hTo] at h16
                        rw [if_neg h16] at hc2_7
                        have em := hc2_7
                        refine ⟨⟨by show (-9223372036854775808 : Int) ≤ ((i : Int) + 1); omega, by show ((i : Int) + 1) ≤ (9223372036854775807 : Int); omega⟩ /- o69 -/, ?_⟩
                        first
                        | exact ⟨rfl, hs.length - (i + 1), by omega, i + 1, M, T, N, by omega, by omega, by omega, by omega, by omega, by first | omega | (rw [List.length_append, List.length_cons, List.length_nil]; omega), by omega, em, rfl, rfl, rfl⟩
                        | exact ⟨rfl, hs.length - (i + 1), by omega, i + 1, _, T + (nu.getD 1 0), 1, by omega, by omega, by omega, by omega, by omega, by first | omega | (rw [List.length_append, List.length_cons, List.length_nil]; omega), by omega, em, rfl, rfl, rfl⟩
                        | exact ⟨rfl, hs.length - (i + 1), by omega, i + 1, M, T + (nu.getD 1 0), 0, by omega, by omega, by omega, by omega, by omega, by first | omega | (rw [List.length_append, List.length_cons, List.length_nil]; omega), by omega, em, rfl, rfl, rfl⟩
                        | exact ⟨rfl, hs.length - (i + 1), by omega, i + 1, _, T, N + 1, by omega, by omega, by omega, by omega, by omega, by first | omega | (rw [List.length_append, List.length_cons, List.length_nil]; omega), by omega, em, rfl, rfl, rfl⟩
                · replace h12 : ((((nu.getD 0 0) / 2 ^ ((hs.getD i 0).toNat)).toNat &&& 1 : Nat) : Int) = 1 := h12  -- 12t
                  have hbt : bitB (nu.getD 0 0) (hs.getD i 0).toNat = true := decide_eq_true (by rw [← bit_and _ hpos]; exact h12)
                  rw [if_pos (.inl hbt)] at hc2_7
                  have em := hc2_7
                  refine ⟨⟨by show (-9223372036854775808 : Int) ≤ ((i : Int) + 1); omega, by show ((i : Int) + 1) ≤ (9223372036854775807 : Int); omega⟩ /- o70 -/, ?_⟩
                  first
                  | exact ⟨rfl, hs.length - (i + 1), by omega, i + 1, M, T, N, by omega, by omega, by omega, by omega, by omega, by first | omega | (rw [List.length_append, List.length_cons, List.length_nil]; omega), by omega, em, rfl, rfl, rfl⟩
                  | exact ⟨rfl, hs.length - (i + 1), by omega, i + 1, _, T + (nu.getD 1 0), 1, by omega, by omega, by omega, by omega, by omega, by first | omega | (rw [List.length_append, List.length_cons, List.length_nil]; omega), by omega, em, rfl, rfl, rfl⟩
                  | exact ⟨rfl, hs.length - (i + 1), by omega, i + 1, M, T + (nu.getD 1 0), 0, by omega, by omega, by omega, by omega, by omega, by first | omega | (rw [List.length_append, List.length_cons, List.length_nil]; omega), by omega, em, rfl, rfl, rfl⟩
                  | exact ⟨rfl, hs.length - (i + 1), by omega, i + 1, _, T, N + 1, by omega, by omega, by omega, by omega, by omega, by first | omega | (rw [List.length_append, List.length_cons, List.length_nil]; omega), by omega, em, rfl, rfl, rfl⟩
              · replace h11 : ¬ ((i : Int) < (hs.length : Int)) := h11  -- 11f
                have hMq : M = madeL b l d hs (nu.getD 0 0) (nu.getD 1 0) (nu.getD 2 0) q := by rw [List.drop_eq_nil_of_le (by omega), madeF, List.append_nil] at hc2_7; exact hc2_7
                have hcap : ∀ x ∈ M, capB x = true := by rw [hMq]; exact fun x hx => (made_caps hc hw1 x hx).1
                have hal : alwB M (nu.getD 1 0) (nu.getD 2 0) = true := by rw [hMq]; exact made_allowed hw1 hm0 _ _
                have hrd : redL b l d m hs (nu.getD 0 0) M = 0 := by rw [hMq]; exact made_red hc hw1 ⟨hb0, hb1⟩
                refine ⟨rfl /- o71 -/, rfl /- o72 -/, ⟨by show M.length ≤ 500; first | omega | assumption /- o73 -/, by first | assumption | simp /- o74 -/, by show 0 ≤ (nu.getD 1 0); first | omega | assumption /- o75 -/, by show (nu.getD 1 0) ≤ 1000000; first | omega | assumption /- o76 -/⟩, fun h17 => absurd h17 (show ¬ (¬ (alwB M (nu.getD 1 0) (nu.getD 2 0) = true)) by exact fun h => h hal), fun h17 => ?_⟩
                refine ⟨rfl /- o77 -/, rfl /- o78 -/, rfl /- o79 -/, rfl /- o80 -/, rfl /- o81 -/, ⟨by show hs.length ≤ 2000000; first | omega | assumption /- o82 -/, by show M.length ≤ 2000000; first | omega | assumption /- o83 -/⟩, fun h18 => absurd h18 (show ¬ ((redL b l d m hs (nu.getD 0 0) M) ≠ 0) by exact fun h => h hrd), fun h18 => ?_⟩
                refine ⟨fun h19 => ?_, fun h19 => ?_⟩
                · replace h19 : 0 < (((telL b l d m hs (nu.getD 0 0) M).length : Nat) : Int) := h19  -- 19t
                  refine ⟨trivial /- o84 -/, ?_⟩
                  -- leaf 5: ['.b True'] | ['.cells [.int .i64 b, .int .i64 l, .int .i64 d, .int .i64 m, .sl false (.int .i64) hs]', '.row true (.int .i64) nu', '.row true (.int .i64) (telL b l d m hs (nu.getD 0 0) a)', '.row true (.cons (.int .i64) (.cons (.int .i64) .nil)) M', '.row true (.int .i64) (telL b l d m hs (nu.getD 0 0) M)']
                  exact ⟨rfl, rfl, congrArg V.b (propext ⟨fun _ => trivial, fun _ => by first | trivial | rfl⟩), rfl⟩
                · replace h19 : ¬ (0 < (((telL b l d m hs (nu.getD 0 0) M).length : Nat) : Int)) := h19  -- 19f
                  have e2 : safQ b l d m hs (nu.getD 0 0) (nu.getD 1 0) (nu.getD 2 0) q = true := made_tells hc hw1 hm0 hm1 ⟨hb0, hb1⟩ h9 (List.eq_nil_of_length_eq_zero (by rw [← hMq]; omega))
                  refine ⟨⟨by show (-9223372036854775808 : Int) ≤ ((q : Int) + 1); omega, by show ((q : Int) + 1) ≤ (9223372036854775807 : Int); omega⟩ /- o85 -/, ?_⟩
                  exact ⟨rfl, (cntL b l d).toNat - (q + 1), by omega, q + 1, by omega, by rw [range_all_succ, hc1_1, e2]; rfl, rfl, rfl, rfl⟩
            · replace h9 : ¬ ((q : Int) < (if chkL b l d m hs = 0 then cntL b l d else 0)) := h9  -- 9f
              exact absurd (by rw [hnn] at h9; rw [safL, decide_eq_true (Classical.not_not.1 h3), Bool.true_and, show (cntL b l d).toNat = q by omega]; exact hc1_1) h5
    · replace h1 : ¬ (fewP b l d m hs 40) := h1  -- 1t
      refine ⟨trivial /- o86 -/, ?_⟩
      -- leaf 6: ['.b True'] | ['.cells [.int .i64 b, .int .i64 l, .int .i64 d, .int .i64 m, .sl false (.int .i64) hs]', '.row true (.int .i64) nu']
      exact ⟨rfl, rfl, congrArg V.b (propext ⟨fun _ => trivial, fun _ => by first | trivial | rfl⟩), rfl⟩
  · replace h0 : (chkL b l d m hs) ≠ 0 := h0  -- 0t
    refine ⟨trivial /- o87 -/, ?_⟩
    -- leaf 7: ['.b True'] | ['.cells [.int .i64 b, .int .i64 l, .int .i64 d, .int .i64 m, .sl false (.int .i64) hs]', '.row true (.int .i64) nu']
    exact ⟨rfl, rfl, congrArg V.b (propext ⟨fun _ => trivial, fun _ => by first | trivial | rfl⟩), rfl⟩
end Go.Proofs.Ytgljcfnplkcfhaa.S29

namespace Go.Proofs.Ytgljcfnplkcfhaa.Cd
open Go Go.Proofs.Ytgljcfnplkcfhaa.Vc Go.Proofs Go.Proofs.Ytgljcfnplkcfhaa.S29 Go.ChangeShapes Go.WideShapes Go.ChangeAt Go.RowKit
set_option maxRecDepth 100000
set_option linter.unusedVariables false

theorem bulkAll {H : Type} : ∀ l : List (DataW H), Rows.uptoBulkAll l = (l.map Rows.uptoBulk).sum
  | [] => rfl
  | d :: l => by rw [Rows.uptoBulkAll, bulkAll l]; rfl
theorem bulk {H : Type} : Bulk (H := H) Rows.uptoBulk where
  one d := by cases d with
    | lit l => cases l <;> simp [Rows.uptoBulk]
    | _ => simp [Rows.uptoBulk]
  str b := by simp [Rows.uptoBulk]
  sl es sp := by rw [Rows.uptoBulk, bulkAll, bulkAll]; omega
  agg ps := by rw [Rows.uptoBulk, bulkAll]; omega
theorem wt_cons (t ts : Ty) (x : (Ty.cons t ts).D) : wt (.cons t ts) x = wt t x.1 + wt ts x.2 := rfl
theorem wt_int (k : IntKind) (x : Int) : wt (.int k) x = 1 := rfl
theorem wt_nil (x : Unit) : wt .nil x = 0 := rfl
theorem wt_sl (t : Ty) (h : ∀ x, 1 ≤ wt t x) (xs : List t.D) : xs.length ≤ wt (.sl t) xs := by
  have e : wt (.sl t) xs = (xs.map (wt t)).sum + 1 := rfl
  rw [e]
  clear e
  induction xs with
  | nil => simp
  | cons x xs ih => have := h x; simp only [List.map_cons, List.sum_cons, List.length_cons]; omega
theorem laidOut : laidOutB Try.prog = true := by kernel_rfl
theorem own : ownKnob Try.prog.godebug = none := by kernel_rfl

section
variable {H : Type} {enc : TypeId × Value → H} {P : Program}
theorem post_same {f : Func} {s : ChangeSpec} {apart fresh handsOn again : Bool} {W W' : World} {args : Array Value} {v : Value} {ds gs : List (DataW H)} {before pa pv : List MemPlace}
    (hW : DataW.Whole enc P f.params.toList s.vars apart W args.toList ds gs before)
    (hres : ∀ (b : Nat) (sp : Nat → Bool) (hd : Bool), DataW.TrodAll enc P W' b sp hd f.resultTypes.toList (v.resultList f.resultTypes.size) (s.fn H (ds ++ gs)).results [])
    (hargs : ∀ sp : Nat → Bool, (∀ p ∈ before, sp p.block = true) → DataW.TrodAll enc P W' 0 sp true f.params.toList args.toList (s.fn H (ds ++ gs)).args pa)
    (hvars : ∀ sp : Nat → Bool, (∀ p ∈ before, sp p.block = true) → DataW.TrodVars enc P W' sp s.vars (s.fn H (ds ++ gs)).vars pv)
    (hps : before = pa ++ pv) (hb : Below W.heap.size W W')
    (hok : ∀ (j : Nat) (t : TypeId) (r : Value), f.resultTypes[j]? = some t → (v.resultList f.resultTypes.size)[j]? = some r → Value.okWide P W' .any 0 t r) :
    s.post enc P f apart fresh handsOn again W args v W' := by
  have hlt : ∀ p ∈ before, p.block < W.heap.size := fun p hp => by simpa using hW.lt p hp
  have hold : ∀ p ∈ before, (fun b => decide (b < W.heap.size)) p.block = true := fun p hp => by simpa using hW.lt p hp
  refine ⟨ds, gs, before, [], pa, pv, hW, hres _ _ _, hargs _ hold, hvars _ hold, World.keptBut_mono (fun p hp => ⟨hp, ?_⟩) (hb.frame (· ∈ before)), fun _ => ?_⟩
  · rw [hps, List.mem_append] at hp
    exact Or.inr hp
  · obtain ⟨_, _, _, _, _, hz, hn⟩ := hW
    refine ⟨hok, _, _, ([] ++ pa) ++ pv, ⟨[] ++ pa, pv, trodAll_append (hargs _ (fun _ _ => rfl)) (hres _ _ _), hvars _ (fun _ _ => rfl), rfl, ?_, ?_⟩, ?_⟩
    · intro b off hp
      have hp' : MemPlace.cell b off ∈ before := by rw [hps]; simpa using hp
      rw [hb.frozen (hlt _ hp')]
      exact hz b off hp'
    · intro ha
      have := hn ha
      rw [hps] at this
      simpa using this
    · intro p hp _
      rw [hps]
      simpa using hp
end
end Go.Proofs.Ytgljcfnplkcfhaa.Cd

/- Texts of this claim: S40.L4, S40.CTz, S40.Cd0. -/
import Derived.Test.YtogipicegdbhdaaDoorS4
import Derived.Test.YtogipicegdbhdaaDoorVc10
import Derived.Test.YtogipicegdbhdaaDoorCards
import Derived.Test.YtogipicegdbhdaaDoorTie
import Derived.WalkKit
import Derived.ProofKit
import Derived.OpenShut
import Derived.Deep.DeepHandedRow
import Derived.Lib.LaidTab
set_option linter.unusedVariables false
set_option linter.unusedSimpArgs false
namespace Go.Proofs.YtogipicegdbhdaaDoor.S40c
open Go Go.Proofs.YtogipicegdbhdaaDoor.Vc Go.Proofs
set_option maxRecDepth 100000
set_option linter.unusedVariables false
open Go.Proofs.YtogipicegdbhdaaDoor.S40
def sLWh : List V → Option (Prop × V × List Blk)
  | [.agg [.str ct, .str ns, .int .i64 b, .int .i64 l, .int .i64 d, .int .i64 m, .sl false (.int .i64) hs], .int .u16 bad, .sl false (.cons (.int .i64) (.cons (.int .i64) .nil)) ca, .str ot] => some (ct.length ≤ 1048576 ∧ ns.length ≤ 1048576 ∧ hs.length ≤ 1048576 ∧ 0 ≤ bad ∧ bad ≤ 65535 ∧ ca.length ≤ 1048576 ∧ ot.length ≤ 1048576, .b True, [])
  | _ => none
set_option maxHeartbeats 8000000 in
theorem bLWh (ct : List UInt8) (ns : List UInt8) (b : Int) (l : Int) (d : Int) (m : Int) (hs : List Int) (bad : Int) (ca : List (Int × (Int × Unit))) (ot : List UInt8) (hp0 : ct.length ≤ 1048576) (hp1 : ns.length ≤ 1048576) (hp2 : hs.length ≤ 1048576) (hp3 : 0 ≤ bad) (hp4 : bad ≤ 65535) (hp5 : ca.length ≤ 1048576) (hp6 : ot.length ≤ 1048576) : bodyP (En CAli tys G6 QAt [1000002]) Tryd.f3 [.k] [.agg [.str ct, .str ns, .int .i64 b, .int .i64 l, .int .i64 d, .int .i64 m, .sl false (.int .i64) hs], .int .u16 bad, .sl false (.cons (.int .i64) (.cons (.int .i64) .nil)) ca, .str ot] (.b True) [] := by
  refine ⟨trivial, fun h0 => ?_, fun h0 => ?_⟩
  · replace h0 : ¬ (¬ True) := h0
    refine ⟨rfl, rfl, rfl, rfl, by show hs.length ≤ 1048576; first | omega | assumption, fun h1 => ?_, fun h1 => ?_⟩
    · replace h1 : ¬ (¬ (fewK ct b l d m hs)) := h1
      obtain ⟨f1, f2, f3, f4, f5, f6, f7⟩ := Classical.not_not.1 h1
      rw [if_pos f5] at f6 f7
      have hc := chk0 f5
      have hK : Kp b l d m hs ct.length := ⟨hc, f4, f1, by omega⟩
      have hm2 := hc.m2
      have hnl : (nzL ns 0 ct.length).length = ct.length := nzL_len _ _ _
      have hcov : covE ct (nzL ns 0 ct.length) = 0 := if_pos hnl.symm
      have hcs : (covS ct (nzL ns 0 ct.length)) = sumB ct (nzL ns 0 ct.length) := if_pos hnl.symm
      have hcl : (covS ct (nzL ns 0 ct.length)).length = ct.length := by rw [hcs, sum_len, hnl]; omega
      have hrl : (List.replicate (nzL ns 0 ct.length).length (0 : Int)).length = (nzL ns 0 ct.length).length := List.length_replicate ..
      refine ⟨fun h2 => ?_, fun h2 => ?_⟩
      · replace h2 : ¬ (12 < (ca.length : Int)) := h2
        refine ⟨fun h3 => ?_, fun h3 => ?_⟩
        · replace h3 : (ot.length : Int) ≠ (ct.length : Int) := h3
          exact ⟨rfl, rfl, rfl, rfl⟩
        · replace h3 : ¬ ((ot.length : Int) ≠ (ct.length : Int)) := h3
          have hfl : (sumB (covS ct (nzL ns 0 ct.length)) ot).length = (nzL ns 0 ct.length).length := by rw [sum_len, hcl, hnl]; omega
          refine ⟨rfl, rfl, rfl, rfl, ⟨by show chkL b l d m hs = 0; first | omega | assumption, by show 2 ≤ m; first | omega | assumption, by show hs.length ≤ 6; first | omega | assumption, by show 1 ≤ ct.length; first | omega | assumption, by show ct.length ≤ 6; first | omega | assumption, by show ns.length ≤ 1048576; first | omega | assumption, by show cntL b l d ≤ 4; first | omega | assumption⟩, ⟨by show ct.length ≤ 1048576; first | omega | assumption, by show (nzL ns 0 ct.length).length ≤ 1048576; first | omega | assumption⟩, fun h4 => ?_, fun h4 => absurd h4 (show ¬ (¬ True) by first | omega | assumption | simp_all)⟩
          refine ⟨fun h5 => ?_, fun h5 => ?_⟩
          · replace h5 : (covE ct (nzL ns 0 ct.length)) ≠ 0 := h5
            exact (h5 hcov).elim
          · replace h5 : ¬ ((covE ct (nzL ns 0 ct.length)) ≠ 0) := h5
            refine ⟨⟨rfl, by show (0 : Int) ≤ (((nzL ns 0 ct.length).length : Nat) : Int); omega, by show (((nzL ns 0 ct.length).length : Nat) : Int) ≤ (1000000000 : Int); omega⟩, 2, [(1, .k), (2, .k), (3, .k), (4, .k), (10, .k), (11, .k), (13, .k), (15, .o (.int .i64)), (85, .k), (86, .k)], fun nM vs H => ∃ (k : Nat), k ≤ (nzL ns 0 ct.length).length ∧ nM = (nzL ns 0 ct.length).length - k ∧ vs = [.int .u16 bad, .sl false (.cons (.int .i64) (.cons (.int .i64) .nil)) ca, .str ot, .ptr 0 1 0 0, .own (.sl (.cons (.int .i64) (.cons .str .nil))) 1, .str (nzL ns 0 ct.length), .str (covS ct (nzL ns 0 ct.length)), .own (.int .i64) 2, .int .i64 (((List.replicate ((nzL ns 0 ct.length).length) (0 : Int)).length : Nat) : Int), .int .i64 (k : Int)] ∧ H = [.cells [.str ct, .str ns, .int .i64 b, .int .i64 l, .int .i64 d, .int .i64 m, .sl false (.int .i64) hs], .row true (.sl (.cons (.int .i64) (.cons .str .nil))) (perA ns ct.length m hs (cntL b l d).toNat), .row true (.int .i64) (mnK (nzL ns 0 ct.length).length k)], ⟨rfl, (nzL ns 0 ct.length).length, 0, by omega, by omega, rfl, by rw [mn_zero]; rfl⟩, ?_⟩
            rintro nM vs H ⟨k, hc1_0, rfl, rfl, rfl⟩
            have hmn := mn_len (nzL ns 0 ct.length).length k
            refine ⟨fun h6 => ?_, fun h6 => ?_⟩
            · replace h6 : (k : Int) < (((List.replicate ((nzL ns 0 ct.length).length) (0 : Int)).length : Nat) : Int) := h6
              refine ⟨⟨by show (0 : Int) ≤ (k : Int); omega, by show (k : Int) < ((mnK (nzL ns 0 ct.length).length k).length : Int); omega⟩, rfl, ⟨rfl, rfl⟩, ⟨by show (-9223372036854775808 : Int) ≤ ((k : Int) + 1); omega, by show ((k : Int) + 1) ≤ (9223372036854775807 : Int); omega⟩, ?_⟩
              exact ⟨rfl, (nzL ns 0 ct.length).length - (k + 1), by omega, k + 1, by omega, rfl, rfl, by rw [← mn_set (by omega)]; rfl⟩
            · replace h6 : ¬ ((k : Int) < (((List.replicate ((nzL ns 0 ct.length).length) (0 : Int)).length : Nat) : Int)) := h6
              refine ⟨⟨rfl, rfl, by show (([covS ct (nzL ns 0 ct.length)] : List (List UInt8)).getD 0 []).length = (mnK (nzL ns 0 ct.length).length k).length; rw [mn_len]; show List.length (covS ct (nzL ns 0 ct.length)) = _; omega, by show (([ot] : List (List UInt8)).getD 0 []).length = (mnK (nzL ns 0 ct.length).length k).length; rw [mn_len]; show List.length ot = _; omega, (mn_all (by omega)), by show (mnK (nzL ns 0 ct.length).length k).length ≤ 1048576; rw [mn_len]; omega⟩, fun h7 => ?_, fun h7 => absurd h7 (show ¬ (¬ True) by first | omega | assumption | simp_all)⟩
              refine ⟨fun h8 => ?_, fun h8 => ?_⟩
              · replace h8 : (0 : Int) ≠ 0 := h8
                exact absurd rfl h8
              · replace h8 : ¬ ((0 : Int) ≠ 0) := h8
                refine ⟨⟨by show (covS ct (nzL ns 0 ct.length)).length ≤ 1000000000; first | omega | assumption, by show ot.length ≤ 1000000000; first | omega | assumption⟩, ⟨by show (-9223372036854775808 : Int) ≤ bad; omega, by show bad ≤ (9223372036854775807 : Int); omega⟩, .inl ⟨⟨by show (0 : Int) ≤ bad; omega, by show (0 : Int) < 4096; omega⟩, ?_⟩⟩
                refine ⟨rfl, rfl, rfl, rfl, rfl, ⟨by show hs.length ≤ 2000000; first | omega | assumption, by show ca.length ≤ 2000000; first | omega | assumption⟩, fun h9 => ?_, fun h9 => ?_⟩
                · replace h9 : (redL b l d m hs (bad % 4096) ca) ≠ 0 := h9
                  exact ⟨rfl, rfl, congrArg V.b (propext ⟨fun _ => trivial, fun _ => rfl⟩), rfl⟩
                · replace h9 : ¬ ((redL b l d m hs (bad % 4096) ca) ≠ 0) := h9
                  have hr := Classical.not_not.1 h9
                  have htl : (telL b l d m hs (bad % 4096) ca).length ≤ (cntL b l d).toNat := by rw [telL, if_pos hr]; exact telG_len _ _ _ _ _ _ _ _
                  have hpl := perA_len ns ct.length m hs (cntL b l d).toNat
                  refine ⟨6, [(2, .k), (4, .k), (10, .k), (11, .k), (13, .k), (19, .k), (20, .k), (21, .k), (125, .k), (126, .k)], fun nM vs H => ∃ (q : Nat), q ≤ (cntL b l d).toNat ∧ nM = (cntL b l d).toNat - q ∧ vs = [.sl false (.cons (.int .i64) (.cons (.int .i64) .nil)) ca, .ptr 0 1 0 0, .own (.sl (.cons (.int .i64) (.cons .str .nil))) 1, .str (nzL ns 0 ct.length), .str (covS ct (nzL ns 0 ct.length)), .str (sumB (covS ct (nzL ns 0 ct.length)) ot), .int .i64 (bad % 4096), .own (.int .i64) 5, .int .i64 (((perA ns ct.length m hs (cntL b l d).toNat).length : Nat) : Int), .int .i64 (q : Int)] ∧ H = [.cells [.str ct, .str ns, .int .i64 b, .int .i64 l, .int .i64 d, .int .i64 m, .sl false (.int .i64) hs], .row true (.sl (.cons (.int .i64) (.cons .str .nil))) (perA ns ct.length m hs (cntL b l d).toNat), .row true (.int .i64) (mnK (nzL ns 0 ct.length).length k), .row true .str ([covS ct (nzL ns 0 ct.length)] : List (List UInt8)), .row true .str ([ot] : List (List UInt8)), .row true (.int .i64) (telL b l d m hs (bad % 4096) ca)], ⟨rfl, (cntL b l d).toNat, 0, by omega, by omega, rfl, rfl⟩, ?_⟩
                  rintro nM vs H ⟨q, hc2_0, rfl, rfl, rfl⟩
                  refine ⟨fun h10 => ?_, fun h10 => ?_⟩
                  · replace h10 : (q : Int) < (((perA ns ct.length m hs (cntL b l d).toNat).length : Nat) : Int) := h10
                    have hq : q < (cntL b l d).toNat := by omega
                    have hqc : (q : Int) < cntL b l d := by omega
                    have hsen := sen_is hr hqc
                    have hs0 : 0 ≤ senL b l d m hs ca (q : Int) := by rw [hsen.2]; exact Int.natCast_nonneg _
                    have hSq : ((perA ns ct.length m hs (cntL b l d).toNat).getD q []) = perK ns ct.length m hs q := perA_get hq
                    have hR : Ready (nzL ns 0 ct.length) m hs ((perA ns ct.length m hs (cntL b l d).toNat).getD q []) := by rw [hSq]; exact hK.ready ns q
                    have hSl : ((perA ns ct.length m hs (cntL b l d).toNat).getD q []).length = hs.length := by rw [hSq]; exact hK.len ns q
                    refine ⟨rfl, rfl, rfl, rfl, rfl, ⟨by show hs.length ≤ 2000000; first | omega | assumption, by show ca.length ≤ 2000000; first | omega | assumption⟩, fun h11 => ?_, fun h11 => ?_⟩
                    · replace h11 : (senE b l d m hs ca (q : Int)) ≠ 0 := h11
                      exact (h11 hsen.1).elim
                    · replace h11 : ¬ ((senE b l d m hs ca (q : Int)) ≠ 0) := h11
                      refine ⟨⟨by show (0 : Int) ≤ (q : Int); omega, by show (q : Int) < ((perA ns ct.length m hs (cntL b l d).toNat).length : Int); omega⟩, 6, [(2, .k), (4, .k), (10, .k), (11, .k), (13, .k), (19, .k), (20, .k), (21, .k), (23, .k), (24, .k), (26, .o (.cons (.int .i64) (.cons .str .nil))), (125, .k), (126, .k), (142, .k), (143, .k), (144, .k)], fun nM vs H => ∃ (i : Nat), i ≤ ((perA ns ct.length m hs (cntL b l d).toNat).getD q []).length ∧ nM = ((perA ns ct.length m hs (cntL b l d).toNat).getD q []).length - i ∧ vs = [.sl false (.cons (.int .i64) (.cons (.int .i64) .nil)) ca, .ptr 0 1 0 0, .own (.sl (.cons (.int .i64) (.cons .str .nil))) 1, .str (nzL ns 0 ct.length), .str (covS ct (nzL ns 0 ct.length)), .str (sumB (covS ct (nzL ns 0 ct.length)) ot), .int .i64 (bad % 4096), .own (.int .i64) 5, .int .i64 (q : Int), .int .i64 (senL b l d m hs ca (q : Int)), .own (.cons (.int .i64) (.cons .str .nil)) 6, .int .i64 (((perA ns ct.length m hs (cntL b l d).toNat).length : Nat) : Int), .int .i64 (q : Int), .sl true (.cons (.int .i64) (.cons .str .nil)) ((perA ns ct.length m hs (cntL b l d).toNat).getD q []), .int .i64 ((((perA ns ct.length m hs (cntL b l d).toNat).getD q []).length : Nat) : Int), .int .i64 (i : Int)] ∧ H = [.cells [.str ct, .str ns, .int .i64 b, .int .i64 l, .int .i64 d, .int .i64 m, .sl false (.int .i64) hs], .row true (.sl (.cons (.int .i64) (.cons .str .nil))) (perA ns ct.length m hs (cntL b l d).toNat), .row true (.int .i64) (mnK (nzL ns 0 ct.length).length k), .row true .str ([covS ct (nzL ns 0 ct.length)] : List (List UInt8)), .row true .str ([ot] : List (List UInt8)), .row true (.int .i64) (telL b l d m hs (bad % 4096) ca), .row true (.cons (.int .i64) (.cons .str .nil)) (vwK ((((senL b l d m hs ca (q : Int)).toNat ||| (bad % 4096).toNat : Nat)) : Int) ((perA ns ct.length m hs (cntL b l d).toNat).getD q []) i)], ⟨rfl, ((perA ns ct.length m hs (cntL b l d).toNat).getD q []).length, 0, by omega, by omega, rfl, rfl⟩, ?_⟩
                      rintro nM vs H ⟨i, hc3_0, rfl, rfl, rfl⟩
                      have hvl := vw_len ((((senL b l d m hs ca (q : Int)).toNat ||| (bad % 4096).toNat : Nat)) : Int) ((perA ns ct.length m hs (cntL b l d).toNat).getD q []) i
                      refine ⟨fun h12 => ?_, fun h12 => ?_⟩
                      · replace h12 : (i : Int) < ((((perA ns ct.length m hs (cntL b l d).toNat).getD q []).length : Nat) : Int) := h12
                        have hi : i < ((perA ns ct.length m hs (cntL b l d).toNat).getD q []).length := by omega
                        have hkw : ∀ x ∈ ((perA ns ct.length m hs (cntL b l d).toNat).getD q []).map (·.1), knw x := by rw [hR.hm]; exact hs_knw hR.ok
                        obtain ⟨w1, w2⟩ : knw (((perA ns ct.length m hs (cntL b l d).toNat).getD q []).getD i (0, [], ())).1 := hkw _ (List.mem_map.2 ⟨_, S40.getD_mem _ _ _ hi, rfl⟩)
                        refine ⟨⟨by show (0 : Int) ≤ (i : Int); omega, by show (i : Int) < (((perA ns ct.length m hs (cntL b l d).toNat).getD q []).length : Int); omega⟩, ⟨rfl, rfl, rfl, Nat.le_of_ble_eq_true rfl⟩, .inl ⟨⟨by show (0 : Int) ≤ (senL b l d m hs ca (q : Int)); omega, by show (0 : Int) ≤ (bad % 4096); omega⟩, ?_⟩⟩
                        refine ⟨⟨by show (0 : Int) ≤ (((perA ns ct.length m hs (cntL b l d).toNat).getD q []).getD i (0, ([], ()))).1; omega, by show (((perA ns ct.length m hs (cntL b l d).toNat).getD q []).getD i (0, ([], ()))).1 ≤ (64 : Int); omega⟩, .inr ⟨rfl, ?_⟩⟩
                        refine ⟨fun h13 => ?_, fun h13 => ?_⟩
                        · replace h13 : (((((senL b l d m hs ca (q : Int)).toNat ||| (bad % 4096).toNat : Nat) : Int) / 2 ^ (((((perA ns ct.length m hs (cntL b l d).toNat).getD q []).getD i (0, ([], ()))).1).toNat)) % 2) = 1 := h13
                          refine ⟨rfl, ⟨rfl, rfl⟩, by show (vwK ((((senL b l d m hs ca (q : Int)).toNat ||| (bad % 4096).toNat : Nat)) : Int) ((perA ns ct.length m hs (cntL b l d).toNat).getD q []) i).length + ([((((perA ns ct.length m hs (cntL b l d).toNat).getD q []).getD i (0, ([], ()))).1, ((((perA ns ct.length m hs (cntL b l d).toNat).getD q []).getD i (0, ([], ()))).2).1, ())] : List (Int × (List UInt8 × Unit))).length ≤ 1000000000; simp only [List.length_cons, List.length_nil]; omega, ⟨by show (-9223372036854775808 : Int) ≤ ((i : Int) + 1); omega, by show ((i : Int) + 1) ≤ (9223372036854775807 : Int); omega⟩, ?_⟩
                          first
                          | exact ⟨rfl, ((perA ns ct.length m hs (cntL b l d).toNat).getD q []).length - (i + 1), by omega, i + 1, by omega, rfl, rfl, by rw [vw_yes hi h13]; rfl⟩
                          | exact ⟨rfl, ((perA ns ct.length m hs (cntL b l d).toNat).getD q []).length - (i + 1), by omega, i + 1, by omega, rfl, rfl, by rw [vw_no hi h13]; rfl⟩
                        · replace h13 : ¬ ((((((senL b l d m hs ca (q : Int)).toNat ||| (bad % 4096).toNat : Nat) : Int) / 2 ^ (((((perA ns ct.length m hs (cntL b l d).toNat).getD q []).getD i (0, ([], ()))).1).toNat)) % 2) = 1) := h13
                          refine ⟨⟨by show (-9223372036854775808 : Int) ≤ ((i : Int) + 1); omega, by show ((i : Int) + 1) ≤ (9223372036854775807 : Int); omega⟩, ?_⟩
                          first
                          | exact ⟨rfl, ((perA ns ct.length m hs (cntL b l d).toNat).getD q []).length - (i + 1), by omega, i + 1, by omega, rfl, rfl, by rw [vw_yes hi h13]; rfl⟩
                          | exact ⟨rfl, ((perA ns ct.length m hs (cntL b l d).toNat).getD q []).length - (i + 1), by omega, i + 1, by omega, rfl, rfl, by rw [vw_no hi h13]; rfl⟩
                      · replace h12 : ¬ ((i : Int) < ((((perA ns ct.length m hs (cntL b l d).toNat).getD q []).length : Nat) : Int)) := h12
                        have hfull : ((perA ns ct.length m hs (cntL b l d).toNat).getD q []).length ≤ i := by omega
                        have hsub := vw_sub ((((senL b l d m hs ca (q : Int)).toNat ||| (bad % 4096).toNat : Nat)) : Int) ((perA ns ct.length m hs (cntL b l d).toNat).getD q []) i
                        have hvl := vw_len ((((senL b l d m hs ca (q : Int)).toNat ||| (bad % 4096).toNat : Nat)) : Int) ((perA ns ct.length m hs (cntL b l d).toNat).getD q []) i
                        have hnm := named hr hqc hR.hm hfull
                        refine ⟨7, [(2, .k), (4, .k), (10, .k), (11, .k), (13, .k), (19, .k), (20, .k), (21, .k), (23, .k), (26, .k), (29, .k), (125, .k), (126, .k), (161, .o (.int .i64)), (162, .k), (163, .k)], fun nM vs H => ∃ (j : Nat), j ≤ (telL b l d m hs (bad % 4096) ca).length ∧ nM = (telL b l d m hs (bad % 4096) ca).length - j ∧ vs = [.sl false (.cons (.int .i64) (.cons (.int .i64) .nil)) ca, .ptr 0 1 0 0, .own (.sl (.cons (.int .i64) (.cons .str .nil))) 1, .str (nzL ns 0 ct.length), .str (covS ct (nzL ns 0 ct.length)), .str (sumB (covS ct (nzL ns 0 ct.length)) ot), .int .i64 (bad % 4096), .own (.int .i64) 5, .int .i64 (q : Int), .own (.cons (.int .i64) (.cons .str .nil)) 6, .b ((q : Int) ∈ (telL b l d m hs (bad % 4096) ca).take j), .int .i64 (((perA ns ct.length m hs (cntL b l d).toNat).length : Nat) : Int), .int .i64 (q : Int), .own (.int .i64) 5, .int .i64 (((telL b l d m hs (bad % 4096) ca).length : Nat) : Int), .int .i64 (j : Int)] ∧ H = [.cells [.str ct, .str ns, .int .i64 b, .int .i64 l, .int .i64 d, .int .i64 m, .sl false (.int .i64) hs], .row true (.sl (.cons (.int .i64) (.cons .str .nil))) (perA ns ct.length m hs (cntL b l d).toNat), .row true (.int .i64) (mnK (nzL ns 0 ct.length).length k), .row true .str ([covS ct (nzL ns 0 ct.length)] : List (List UInt8)), .row true .str ([ot] : List (List UInt8)), .row true (.int .i64) (telL b l d m hs (bad % 4096) ca), .row true (.cons (.int .i64) (.cons .str .nil)) (vwK ((((senL b l d m hs ca (q : Int)).toNat ||| (bad % 4096).toNat : Nat)) : Int) ((perA ns ct.length m hs (cntL b l d).toNat).getD q []) i)], ⟨rfl, (telL b l d m hs (bad % 4096) ca).length, 0, by omega, by omega, by rw [nm_zero]; rfl, rfl⟩, ?_⟩
                        rintro nM vs H ⟨j, hc4_0, rfl, rfl, rfl⟩
                        refine ⟨fun h14 => ?_, fun h14 => ?_⟩
                        · replace h14 : (j : Int) < (((telL b l d m hs (bad % 4096) ca).length : Nat) : Int) := h14
                          refine ⟨⟨by show (0 : Int) ≤ (j : Int); omega, by show (j : Int) < ((telL b l d m hs (bad % 4096) ca).length : Int); omega⟩, fun h15 => ?_, fun h15 => ?_⟩
                          · replace h15 : ¬ ((q : Int) ∈ (telL b l d m hs (bad % 4096) ca).take j) := h15
                            refine ⟨⟨by show (-9223372036854775808 : Int) ≤ ((j : Int) + 1); omega, by show ((j : Int) + 1) ≤ (9223372036854775807 : Int); omega⟩, ?_⟩
                            first
                            | exact ⟨rfl, (telL b l d m hs (bad % 4096) ca).length - (j + 1), by omega, j + 1, by omega, rfl, by rw [← nm_old (by omega) (by assumption)]; rfl, rfl⟩
                            | exact ⟨rfl, (telL b l d m hs (bad % 4096) ca).length - (j + 1), by omega, j + 1, by omega, rfl, by rw [← nm_new (by omega) (by assumption)]; rfl, rfl⟩
                          · replace h15 : (q : Int) ∈ (telL b l d m hs (bad % 4096) ca).take j := h15
                            refine ⟨⟨by show (-9223372036854775808 : Int) ≤ ((j : Int) + 1); omega, by show ((j : Int) + 1) ≤ (9223372036854775807 : Int); omega⟩, ?_⟩
                            first
                            | exact ⟨rfl, (telL b l d m hs (bad % 4096) ca).length - (j + 1), by omega, j + 1, by omega, rfl, by rw [← nm_old (by omega) (by assumption)]; rfl, rfl⟩
                            | exact ⟨rfl, (telL b l d m hs (bad % 4096) ca).length - (j + 1), by omega, j + 1, by omega, rfl, by rw [← nm_new (by omega) (by assumption)]; rfl, rfl⟩
                        · replace h14 : ¬ ((j : Int) < (((telL b l d m hs (bad % 4096) ca).length : Nat) : Int)) := h14
                          have htk : (telL b l d m hs (bad % 4096) ca).take j = (telL b l d m hs (bad % 4096) ca) := List.take_of_length_le (by omega)
                          have hnm2 : (q : Int) ∈ (telL b l d m hs (bad % 4096) ca).take j ↔ m ≤ (((vwK ((((senL b l d m hs ca (q : Int)).toNat ||| (bad % 4096).toNat : Nat)) : Int) ((perA ns ct.length m hs (cntL b l d).toNat).getD q []) i).length : Nat) : Int) := by rw [htk]; exact hnm
                          have hfk : ftP (vwK ((((senL b l d m hs ca (q : Int)).toNat ||| (bad % 4096).toNat : Nat)) : Int) ((perA ns ct.length m hs (cntL b l d).toNat).getD q []) i) m (nzL ns 0 ct.length) := by
                            by_cases g : m ≤ (((vwK ((((senL b l d m hs ca (q : Int)).toNat ||| (bad % 4096).toNat : Nat)) : Int) ((perA ns ct.length m hs (cntL b l d).toNat).getD q []) i).length : Nat) : Int)
                            · exact (hR.many hsub g rfl).1.2 rfl
                            · exact (hR.few hsub g rfl).1
                          refine ⟨rfl, ⟨by show (vwK ((((senL b l d m hs ca (q : Int)).toNat ||| (bad % 4096).toNat : Nat)) : Int) ((perA ns ct.length m hs (cntL b l d).toNat).getD q []) i).length ≤ 1048576; omega, by show (nzL ns 0 ct.length).length ≤ 1048576; first | omega | assumption⟩, rfl, ⟨by show (vwK ((((senL b l d m hs ca (q : Int)).toNat ||| (bad % 4096).toNat : Nat)) : Int) ((perA ns ct.length m hs (cntL b l d).toNat).getD q []) i).length ≤ 1048576; omega, by show (sumB (covS ct (nzL ns 0 ct.length)) ot).length ≤ 1048576; first | omega | assumption⟩, fun h16 => ?_, fun h16 => ?_⟩
                          · replace h16 : ¬ (¬ (ftP (vwK ((((senL b l d m hs ca (q : Int)).toNat ||| (bad % 4096).toNat : Nat)) : Int) ((perA ns ct.length m hs (cntL b l d).toNat).getD q []) i) m (nzL ns 0 ct.length))) := h16
                            refine ⟨fun h17 => ?_, fun h17 => ?_⟩
                            · replace h17 : ¬ ((q : Int) ∈ (telL b l d m hs (bad % 4096) ca).take j ↔ m ≤ (((vwK ((((senL b l d m hs ca (q : Int)).toNat ||| (bad % 4096).toNat : Nat)) : Int) ((perA ns ct.length m hs (cntL b l d).toNat).getD q []) i).length : Nat) : Int)) := h17
                              exact (h17 hnm2).elim
                            · replace h17 : ¬ (¬ ((q : Int) ∈ (telL b l d m hs (bad % 4096) ca).take j ↔ m ≤ (((vwK ((((senL b l d m hs ca (q : Int)).toNat ||| (bad % 4096).toNat : Nat)) : Int) ((perA ns ct.length m hs (cntL b l d).toNat).getD q []) i).length : Nat) : Int))) := h17
                              refine ⟨fun h18 => ?_, fun h18 => ?_⟩
                              · replace h18 : ¬ ((q : Int) ∈ (telL b l d m hs (bad % 4096) ca).take j) := h18
                                have hfew : ¬ m ≤ (((vwK ((((senL b l d m hs ca (q : Int)).toNat ||| (bad % 4096).toNat : Nat)) : Int) ((perA ns ct.length m hs (cntL b l d).toNat).getD q []) i).length : Nat) : Int) := fun g => h18 (hnm2.2 g)
                                have he := hR.few hsub hfew hfl
                                refine ⟨fun h19 => ?_, fun h19 => ?_⟩
                                · replace h19 : ¬ (¬ (ftP (vwK ((((senL b l d m hs ca (q : Int)).toNat ||| (bad % 4096).toNat : Nat)) : Int) ((perA ns ct.length m hs (cntL b l d).toNat).getD q []) i) m (sumB (covS ct (nzL ns 0 ct.length)) ot))) := h19
                                  refine ⟨fun h20 => ?_, fun h20 => ?_⟩
                                  · replace h20 : ¬ ((ftN (vwK ((((senL b l d m hs ca (q : Int)).toNat ||| (bad % 4096).toNat : Nat)) : Int) ((perA ns ct.length m hs (cntL b l d).toNat).getD q []) i) m (nzL ns 0 ct.length)) ≠ (ftN (vwK ((((senL b l d m hs ca (q : Int)).toNat ||| (bad % 4096).toNat : Nat)) : Int) ((perA ns ct.length m hs (cntL b l d).toNat).getD q []) i) m (sumB (covS ct (nzL ns 0 ct.length)) ot))) := h20
                                    refine ⟨fun h21 => absurd h21 (show ¬ ((q : Int) ∈ (telL b l d m hs (bad % 4096) ca).take j) by first | omega | assumption | simp_all), fun h21 => ?_⟩
                                    refine ⟨fun h22 => absurd h22 (show ¬ ((q : Int) ∈ (telL b l d m hs (bad % 4096) ca).take j) by first | omega | assumption | simp_all), fun h22 => ?_⟩
                                    refine ⟨⟨by show (-9223372036854775808 : Int) ≤ ((q : Int) + 1); omega, by show ((q : Int) + 1) ≤ (9223372036854775807 : Int); omega⟩, ?_⟩
                                    exact ⟨rfl, (cntL b l d).toNat - (q + 1), by omega, q + 1, by omega, rfl, rfl, rfl⟩
                                  · replace h20 : (ftN (vwK ((((senL b l d m hs ca (q : Int)).toNat ||| (bad % 4096).toNat : Nat)) : Int) ((perA ns ct.length m hs (cntL b l d).toNat).getD q []) i) m (nzL ns 0 ct.length)) ≠ (ftN (vwK ((((senL b l d m hs ca (q : Int)).toNat ||| (bad % 4096).toNat : Nat)) : Int) ((perA ns ct.length m hs (cntL b l d).toNat).getD q []) i) m (sumB (covS ct (nzL ns 0 ct.length)) ot)) := h20
                                    exact (h20 (by rw [(hR.few hsub hfew rfl).2, he.2])).elim
                                · replace h19 : ¬ (ftP (vwK ((((senL b l d m hs ca (q : Int)).toNat ||| (bad % 4096).toNat : Nat)) : Int) ((perA ns ct.length m hs (cntL b l d).toNat).getD q []) i) m (sumB (covS ct (nzL ns 0 ct.length)) ot)) := h19
                                  exact (h19 he.1).elim
                              · replace h18 : ¬ (¬ ((q : Int) ∈ (telL b l d m hs (bad % 4096) ca).take j)) := h18
                                have hmany := hnm2.1 (Classical.not_not.1 h18)
                                have hj := hR.join hsub hmany
                                have hj1 : covE (covS ct (nzL ns 0 ct.length)) (joS (vwK ((((senL b l d m hs ca (q : Int)).toNat ||| (bad % 4096).toNat : Nat)) : Int) ((perA ns ct.length m hs (cntL b l d).toNat).getD q []) i) m 0) = 0 := by rw [hj.2]; exact if_pos (by rw [hcl, hnl])
                                have hj2 : covS (covS ct (nzL ns 0 ct.length)) (joS (vwK ((((senL b l d m hs ca (q : Int)).toNat ||| (bad % 4096).toNat : Nat)) : Int) ((perA ns ct.length m hs (cntL b l d).toNat).getD q []) i) m 0) = ct := by rw [hj.2, covS, if_pos (by rw [hcl, hnl]), hcs, xor_back hnl.symm]
                                refine ⟨fun h23 => ?_, fun h23 => absurd (show (q : Int) ∈ (telL b l d m hs (bad % 4096) ca).take j by first | omega | assumption | simp_all) h23⟩
                                refine ⟨fun h24 => ?_, fun h24 => ?_⟩
                                · replace h24 : ¬ (ftP (vwK ((((senL b l d m hs ca (q : Int)).toNat ||| (bad % 4096).toNat : Nat)) : Int) ((perA ns ct.length m hs (cntL b l d).toNat).getD q []) i) m (sumB (covS ct (nzL ns 0 ct.length)) ot) ↔ (sumB (covS ct (nzL ns 0 ct.length)) ot) = (nzL ns 0 ct.length)) := h24
                                  exact (h24 (hR.many hsub hmany hfl).1).elim
                                · replace h24 : ¬ (¬ (ftP (vwK ((((senL b l d m hs ca (q : Int)).toNat ||| (bad % 4096).toNat : Nat)) : Int) ((perA ns ct.length m hs (cntL b l d).toNat).getD q []) i) m (sumB (covS ct (nzL ns 0 ct.length)) ot) ↔ (sumB (covS ct (nzL ns 0 ct.length)) ot) = (nzL ns 0 ct.length))) := h24
                                  refine ⟨fun h25 => ?_, fun h25 => absurd (show (q : Int) ∈ (telL b l d m hs (bad % 4096) ca).take j by first | omega | assumption | simp_all) h25⟩
                                  refine ⟨rfl, by show (vwK ((((senL b l d m hs ca (q : Int)).toNat ||| (bad % 4096).toNat : Nat)) : Int) ((perA ns ct.length m hs (cntL b l d).toNat).getD q []) i).length ≤ 1048576; omega, ⟨by show (covS ct (nzL ns 0 ct.length)).length ≤ 1048576; first | omega | assumption, by show (joS (vwK ((((senL b l d m hs ca (q : Int)).toNat ||| (bad % 4096).toNat : Nat)) : Int) ((perA ns ct.length m hs (cntL b l d).toNat).getD q []) i) m 0).length ≤ 1048576; rw [hj.2]; omega⟩, fun h26 => ?_, fun h26 => ?_⟩
                                  · replace h26 : ¬ ((joE (vwK ((((senL b l d m hs ca (q : Int)).toNat ||| (bad % 4096).toNat : Nat)) : Int) ((perA ns ct.length m hs (cntL b l d).toNat).getD q []) i) m) ≠ 0) := h26
                                    refine ⟨fun h27 => ?_, fun h27 => ?_⟩
                                    · replace h27 : ¬ ((covE (covS ct (nzL ns 0 ct.length)) (joS (vwK ((((senL b l d m hs ca (q : Int)).toNat ||| (bad % 4096).toNat : Nat)) : Int) ((perA ns ct.length m hs (cntL b l d).toNat).getD q []) i) m 0)) ≠ 0) := h27
                                      refine ⟨fun h28 => ?_, fun h28 => ?_⟩
                                      · replace h28 : (covS (covS ct (nzL ns 0 ct.length)) (joS (vwK ((((senL b l d m hs ca (q : Int)).toNat ||| (bad % 4096).toNat : Nat)) : Int) ((perA ns ct.length m hs (cntL b l d).toNat).getD q []) i) m 0)) ≠ ct := h28
                                        exact (h28 hj2).elim
                                      · replace h28 : ¬ ((covS (covS ct (nzL ns 0 ct.length)) (joS (vwK ((((senL b l d m hs ca (q : Int)).toNat ||| (bad % 4096).toNat : Nat)) : Int) ((perA ns ct.length m hs (cntL b l d).toNat).getD q []) i) m 0)) ≠ ct) := h28
                                        refine ⟨⟨by show (-9223372036854775808 : Int) ≤ ((q : Int) + 1); omega, by show ((q : Int) + 1) ≤ (9223372036854775807 : Int); omega⟩, ?_⟩
                                        exact ⟨rfl, (cntL b l d).toNat - (q + 1), by omega, q + 1, by omega, rfl, rfl, rfl⟩
                                    · replace h27 : (covE (covS ct (nzL ns 0 ct.length)) (joS (vwK ((((senL b l d m hs ca (q : Int)).toNat ||| (bad % 4096).toNat : Nat)) : Int) ((perA ns ct.length m hs (cntL b l d).toNat).getD q []) i) m 0)) ≠ 0 := h27
                                      exact (h27 hj1).elim
                                  · replace h26 : (joE (vwK ((((senL b l d m hs ca (q : Int)).toNat ||| (bad % 4096).toNat : Nat)) : Int) ((perA ns ct.length m hs (cntL b l d).toNat).getD q []) i) m) ≠ 0 := h26
                                    exact (h26 hj.1).elim
                          · replace h16 : ¬ (ftP (vwK ((((senL b l d m hs ca (q : Int)).toNat ||| (bad % 4096).toNat : Nat)) : Int) ((perA ns ct.length m hs (cntL b l d).toNat).getD q []) i) m (nzL ns 0 ct.length)) := h16
                            exact (h16 hfk).elim
                  · replace h10 : ¬ ((q : Int) < (((perA ns ct.length m hs (cntL b l d).toNat).length : Nat) : Int)) := h10
                    exact ⟨rfl, rfl, congrArg V.b (propext ⟨fun _ => trivial, fun _ => rfl⟩), rfl⟩
      · replace h2 : 12 < (ca.length : Int) := h2
        exact ⟨rfl, rfl, rfl, rfl⟩
    · replace h1 : ¬ (fewK ct b l d m hs) := h1
      exact ⟨rfl, rfl, rfl, rfl⟩
  · replace h0 : ¬ True := h0
    exact ⟨rfl, rfl, rfl, rfl⟩
end Go.Proofs.YtogipicegdbhdaaDoor.S40c

namespace Go.Proofs.YtogipicegdbhdaaDoor.S40c
open Go Go.Proofs.YtogipicegdbhdaaDoor.Vc

/-! ### how large the parts of a datum are -/
theorem wt_len {t : Ty} (h1 : ∀ x, 1 ≤ wt t x) (xs : List t.D) : xs.length + 1 ≤ wt (.sl t) xs := by
  have e : wt (.sl t) xs = (xs.map (wt t)).sum + 1 := rfl
  rw [e]
  clear e
  induction xs with
  | nil => simp
  | cons x xs ih => have := h1 x; rw [List.map_cons, List.sum_cons, List.length_cons]; omega
theorem wt_is (xs : List Int) : xs.length + 1 ≤ wt (.sl (.int .i64)) xs := wt_len (t := .int .i64) (fun _ => Nat.le_refl 1) xs
theorem wt_cs (xs : List (Int × (Int × Unit))) : xs.length + 1 ≤ wt (.sl (.cons (.int .i64) (.cons (.int .i64) .nil))) xs := wt_len (t := .cons (.int .i64) (.cons (.int .i64) .nil)) (fun x => by
  have e : wt (.cons (.int .i64) (.cons (.int .i64) .nil)) x = 1 + (1 + 0) := rfl
  omega) xs
theorem wt_k (x : List UInt8 × (List UInt8 × ((Int × (Int × (Int × (Int × (List Int × Unit))))) × Unit))) :
    wt (.cons .str (.cons .str (.cons (.cons (.int .i64) (.cons (.int .i64) (.cons (.int .i64) (.cons (.int .i64) (.cons (.sl (.int .i64)) .nil))))) .nil))) x = (x.1.length + 1) + ((x.2.1.length + 1) + ((1 + (1 + (1 + (1 + (wt (.sl (.int .i64)) x.2.2.1.2.2.2.2.1 + 0))))) + 0)) := rfl
end Go.Proofs.YtogipicegdbhdaaDoor.S40c

namespace Go.Proofs.YtogipicegdbhdaaDoor.Cd
open Go Go.Proofs.YtogipicegdbhdaaDoor.Vc Go.Proofs Go.Proofs.YtogipicegdbhdaaDoor.S40 Go.Proofs.YtogipicegdbhdaaDoor.S40c Go.ChangeShapes Go.WideShapes Go.ChangeAt Go.RowKit
set_option maxRecDepth 100000
set_option linter.unusedVariables false

theorem bulkAll {H : Type} : ∀ l : List (DataW H), Rows.uptoBulkAll l = (l.map Rows.uptoBulk).sum
  | [] => rfl
  | d :: l => by rw [Rows.uptoBulkAll, bulkAll l]; rfl
theorem bulk {H : Type} : Bulk (H := H) Rows.uptoBulk where
  one d := by cases d with
    | lit l => cases l <;> simp [Rows.uptoBulk]
    | _ => simp [Rows.uptoBulk]
  str b := by simp [Rows.uptoBulk]
  sl es sp := by rw [Rows.uptoBulk, bulkAll, bulkAll]; omega
  agg ps := by rw [Rows.uptoBulk, bulkAll]; omega
theorem wt_cons (t ts : Ty) (x : (Ty.cons t ts).D) : wt (.cons t ts) x = wt t x.1 + wt ts x.2 := rfl
theorem wt_int (k : IntKind) (x : Int) : wt (.int k) x = 1 := rfl
theorem wt_nil (x : Unit) : wt .nil x = 0 := rfl
theorem laidOut : laidOutB Tryd.prog = true := by kernel_rfl
theorem own : ownKnob Tryd.prog.godebug = none := by kernel_rfl

section
variable {H : Type} {enc : TypeId × Value → H} {P : Program}
theorem post_same {f : Func} {s : ChangeSpec} {apart fresh handsOn again : Bool} {W W' : World} {args : Array Value} {v : Value} {ds gs : List (DataW H)} {before pa pv : List MemPlace}
    (hW : DataW.Whole enc P f.params.toList s.vars apart W args.toList ds gs before)
    (hres : ∀ (b : Nat) (sp : Nat → Bool) (hd : Bool), DataW.TrodAll enc P W' b sp hd f.resultTypes.toList (v.resultList f.resultTypes.size) (s.fn H (ds ++ gs)).results [])
    (hargs : ∀ sp : Nat → Bool, (∀ p ∈ before, sp p.block = true) → DataW.TrodAll enc P W' 0 sp true f.params.toList args.toList (s.fn H (ds ++ gs)).args pa)
    (hvars : ∀ sp : Nat → Bool, (∀ p ∈ before, sp p.block = true) → DataW.TrodVars enc P W' sp s.vars (s.fn H (ds ++ gs)).vars pv)
    (hps : before = pa ++ pv) (hb : Below W.heap.size W W')
    (hok : ∀ (j : Nat) (t : TypeId) (r : Value), f.resultTypes[j]? = some t → (v.resultList f.resultTypes.size)[j]? = some r → Value.okWide P W' .any 0 t r) :
    s.post enc P f apart fresh handsOn again W args v W' := by
  have hlt : ∀ p ∈ before, p.block < W.heap.size := fun p hp => by simpa using hW.lt p hp
  have hold : ∀ p ∈ before, (fun b => decide (b < W.heap.size)) p.block = true := fun p hp => by simpa using hW.lt p hp
  refine ⟨ds, gs, before, [], pa, pv, hW, hres _ _ _, hargs _ hold, hvars _ hold, World.keptBut_mono (fun p hp => ⟨hp, ?_⟩) (hb.frame (· ∈ before)), fun _ => ?_⟩
  · rw [hps, List.mem_append] at hp
    exact Or.inr hp
  · obtain ⟨_, _, _, _, _, hz, hn⟩ := hW
    refine ⟨hok, _, _, ([] ++ pa) ++ pv, ⟨[] ++ pa, pv, trodAll_append (hargs _ (fun _ _ => rfl)) (hres _ _ _), hvars _ (fun _ _ => rfl), rfl, ?_, ?_⟩, ?_⟩
    · intro b off hp
      have hp' : MemPlace.cell b off ∈ before := by rw [hps]; simpa using hp
      rw [hb.frozen (hlt _ hp')]
      exact hz b off hp'
    · intro ha
      have := hn ha
      rw [hps] at this
      simpa using this
    · intro p hp _
      rw [hps]
      simpa using hp
end
end Go.Proofs.YtogipicegdbhdaaDoor.Cd

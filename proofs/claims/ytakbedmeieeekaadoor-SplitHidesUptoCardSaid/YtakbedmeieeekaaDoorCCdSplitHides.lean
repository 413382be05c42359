/- Texts of this claim: S26.D8, S26.CdSplitHides. -/
import Derived.Test.YtakbedmeieeekaaDoorS4
import Derived.Test.YtakbedmeieeekaaDoorS5
set_option linter.unusedVariables false
set_option linter.unusedSimpArgs false
namespace Go.Proofs.YtakbedmeieeekaaDoor.S26
open Go Go.Proofs.YtakbedmeieeekaaDoor.Vc Go.Proofs
set_option maxRecDepth 100000
set_option linter.unusedVariables false

def sLHid : List V → Option (Prop × V × List Blk)
  | [.agg [.str sec, .int .i64 nd, .sl false (.int .i64) hs, .str nz], .int .u16 mask, .str oth] => some (sec.length ≤ 1048576 ∧ hs.length ≤ 1048576 ∧ nz.length ≤ 1048576 ∧ 0 ≤ mask ∧ mask ≤ 65535 ∧ oth.length ≤ 1048576, .b True, [])
  | _ => none
set_option maxHeartbeats 8000000 in
theorem bLHid (sec : List UInt8) (nd : Int) (hs : List Int) (nz : List UInt8) (mask : Int) (oth : List UInt8) (hp0 : sec.length ≤ 1048576) (hp1 : hs.length ≤ 1048576) (hp2 : nz.length ≤ 1048576) (hp3 : 0 ≤ mask) (hp4 : mask ≤ 65535) (hp5 : oth.length ≤ 1048576) : bodyP (En CSan tys G6 QCo2 [1000002, 4000000, 4000110]) Tryd.f10 [.k] [.agg [.str sec, .int .i64 nd, .sl false (.int .i64) hs, .str nz], .int .u16 mask, .str oth] (.b True) [] := by
  refine ⟨rfl, rfl, ⟨by show sec.length ≤ 1048576; first | omega | assumption, by show hs.length ≤ 1048576; first | omega | assumption⟩, fun h0 => ?_, fun h0 => ?_⟩
  · replace h0 : ¬ (¬ (smlP sec hs 40)) := h0
    refine ⟨fun h1 => ?_, fun h1 => ?_⟩
    · replace h1 : ¬ ((oth.length : Int) < (sec.length : Int)) := h1
      refine ⟨fun h2 => ?_, fun h2 => ?_⟩
      · replace h2 : 40 < (sec.length : Int) := h2
        refine ⟨trivial, ?_⟩
        exact ⟨rfl, rfl, rfl, rfl⟩
      · replace h2 : ¬ (40 < (sec.length : Int)) := h2
        refine ⟨rfl, ⟨by show sec.length ≤ 1048576; first | omega | assumption, by show hs.length ≤ 1048576; first | omega | assumption, by show nz.length ≤ 1048576; first | omega | assumption⟩, rfl, ⟨Nat.le_trans (spl_12 _ _ _ _) (by omega), by show 0 ≤ mask; first | omega | assumption⟩, fun h3 => ?_, fun h3 => ?_⟩
        · replace h3 : ¬ ((splE sec nd hs nz) ≠ 0) := h3
          have hS := spl0 (Classical.not_not.1 h3)
          have hll := hS.llen
          have hl12 := hs_12 hS.ok
          have hn1 := hS.n1
          have hn12 := hS.n12
          have hsub := sm_sub (splL sec nd hs nz) mask
          have hKc := chk0 (chk_sub (chk0 hS.chk) hsub)
          have hKl := smK_len (splL sec nd hs nz) mask (splL sec nd hs nz).length
          have hol : (oth.take sec.length).length = sec.length := by rw [List.length_take]; omega
          have hdl : (oth.drop sec.length).length = oth.length - sec.length := List.length_drop ..
          refine ⟨fun h4 => ?_, fun h4 => ?_⟩
          · replace h4 : nd ≤ (((smK (splL sec nd hs nz) mask (splL sec nd hs nz).length).length : Nat) : Int) := h4
            refine ⟨trivial, ?_⟩
            exact ⟨rfl, rfl, rfl, rfl⟩
          · replace h4 : ¬ (nd ≤ (((smK (splL sec nd hs nz) mask (splL sec nd hs nz).length).length : Nat) : Int)) := h4
            obtain ⟨hfp, hfn⟩ := fits_few hS hsub h4 hol
            have hnm : ((sec.length : Int) * (nd - 1)).toNat = sec.length * (nd - 1).toNat := mul_nat (by omega)
            have hnb : sec.length * (nd - 1).toNat ≤ 4096 * 12 := Nat.mul_le_mul (by omega) (by omega)
            obtain ⟨u1, u2⟩ := mul_bd (a := (sec.length : Int)) (b := nd - 1) (A := 4096) (B := 12) (by omega) (by omega) (by omega) (by omega)
            obtain ⟨v1, v2⟩ := mul_bd (a := (sec.length : Int)) (b := nd - 1 - (((smK (splL sec nd hs nz) mask (splL sec nd hs nz).length).length : Nat) : Int)) (A := 4096) (B := 12) (by omega) (by omega) (by omega) (by omega)
            refine ⟨⟨by omega, by omega⟩, ⟨by omega, by omega⟩, rfl, ⟨Nat.le_trans (smK_len _ _ _) (Nat.le_trans (spl_12 _ _ _ _) (by omega)), by show (oth.take sec.length).length ≤ 1048576; first | omega | assumption | (simp only [List.length_cons, List.length_nil, List.length_append, List.length_take, List.length_drop, List.length_set, List.length_replicate]; omega)⟩, fun h5 => ?_, fun h5 => ?_⟩
            · replace h5 : ¬ (¬ (ftP (smK (splL sec nd hs nz) mask (splL sec nd hs nz).length) nd (oth.take sec.length))) := h5
              refine ⟨⟨by show (-9223372036854775808 : Int) ≤ (nd - 1); omega, by show (nd - 1) ≤ (9223372036854775807 : Int); omega⟩, ⟨by show (-9223372036854775808 : Int) ≤ ((nd - 1) - (((smK (splL sec nd hs nz) mask (splL sec nd hs nz).length).length : Nat) : Int)); omega, by show ((nd - 1) - (((smK (splL sec nd hs nz) mask (splL sec nd hs nz).length).length : Nat) : Int)) ≤ (9223372036854775807 : Int); omega⟩, ⟨by show (-9223372036854775808 : Int) ≤ ((sec.length : Int) * ((nd - 1) - (((smK (splL sec nd hs nz) mask (splL sec nd hs nz).length).length : Nat) : Int))); omega, by show ((sec.length : Int) * ((nd - 1) - (((smK (splL sec nd hs nz) mask (splL sec nd hs nz).length).length : Nat) : Int))) ≤ (9223372036854775807 : Int); omega⟩, fun h6 => ?_, fun h6 => ?_⟩
              · replace h6 : (ftN (smK (splL sec nd hs nz) mask (splL sec nd hs nz).length) nd (oth.take sec.length)) ≠ ((sec.length : Int) * ((nd - 1) - (((smK (splL sec nd hs nz) mask (splL sec nd hs nz).length).length : Nat) : Int))) := h6
                exact absurd hfn h6
              · replace h6 : ¬ ((ftN (smK (splL sec nd hs nz) mask (splL sec nd hs nz).length) nd (oth.take sec.length)) ≠ ((sec.length : Int) * ((nd - 1) - (((smK (splL sec nd hs nz) mask (splL sec nd hs nz).length).length : Nat) : Int)))) := h6
                refine ⟨⟨by show (-9223372036854775808 : Int) ≤ (nd - 1); omega, by show (nd - 1) ≤ (9223372036854775807 : Int); omega⟩, ⟨by show (-9223372036854775808 : Int) ≤ ((sec.length : Int) * (nd - 1)); omega, by show ((sec.length : Int) * (nd - 1)) ≤ (9223372036854775807 : Int); omega⟩, ⟨rfl, by show (0 : Int) ≤ ((sec.length : Int) * (nd - 1)); omega, by show ((sec.length : Int) * (nd - 1)) ≤ (1000000000 : Int); omega⟩, 4, [(1, .k), (2, .k), (3, .k), (7, .k), (10, .k), (11, .k), (14, .k), (103, .k), (104, .k)], fun nM vs H => ∃ (k : Nat) (ps : Nat → List UInt8), k ≤ sec.length ∧ (∀ i, i < k → Hid (smK (splL sec nd hs nz) mask (splL sec nd hs nz).length) (oth.take sec.length) nd i (ps i)) ∧ nM = sec.length - k ∧ vs = [.int .u16 mask, .str (oth.take sec.length), .ptr 0 1 0 0, .int .i64 (sec.length : Int), .own (.cons (.int .i64) (.cons .str .nil)) 2, .str (oth.drop sec.length), .own .u8 3, .int .i64 (sec.length : Int), .int .i64 (k : Int)] ∧ H = [.cells [.str sec, .int .i64 nd, .sl false (.int .i64) hs, .str nz], .row true (.cons (.int .i64) (.cons .str .nil)) (splL sec nd hs nz), .row true (.cons (.int .i64) (.cons .str .nil)) (smK (splL sec nd hs nz) mask (splL sec nd hs nz).length), .row true .u8 (nsF ps sec.length (nd - 1).toNat k 0)], ⟨rfl, sec.length, 0, fun _ => [], by omega, fun i h => absurd h (Nat.not_lt_zero i), by omega, rfl, by rw [nsF_zero, ← hnm]; rfl⟩, ?_⟩
                rintro nM vs H ⟨k, ps, hc1_0, hc1_1, rfl, rfl, rfl⟩
                have hnl := nsF_len ps sec.length (nd - 1).toNat k 0
                refine ⟨fun h7 => ?_, fun h7 => ?_⟩
                · replace h7 : (k : Int) < (sec.length : Int) := h7
                  obtain ⟨m1, m2⟩ := mul_bd (a := (k : Int)) (b := nd) (A := 4096) (B := 12) (by omega) (by omega) (by omega) (by omega)
                  refine ⟨by kernel_rfl, ⟨by show (0 : Int) ≤ (k : Int); omega, by show (k : Int) < ((oth.take sec.length).length : Int); omega⟩, 4, [(1, .k), (2, .k), (3, .k), (7, .k), (10, .k), (11, .k), (14, .k), (15, .k), (16, .o .u8), (17, .o .u8), (103, .k), (104, .k), (112, .k), (113, .k), (114, .k)], fun nM vs H => ∃ (i : Nat), i ≤ (smK (splL sec nd hs nz) mask (splL sec nd hs nz).length).length ∧ nM = (smK (splL sec nd hs nz) mask (splL sec nd hs nz).length).length - i ∧ vs = [.int .u16 mask, .str (oth.take sec.length), .ptr 0 1 0 0, .int .i64 (sec.length : Int), .own (.cons (.int .i64) (.cons .str .nil)) 2, .str (oth.drop sec.length), .own .u8 3, .int .i64 (k : Int), .own .u8 4, .own .u8 5, .int .i64 (sec.length : Int), .int .i64 (k : Int), .own (.cons (.int .i64) (.cons .str .nil)) 2, .int .i64 (((smK (splL sec nd hs nz) mask (splL sec nd hs nz).length).length : Nat) : Int), .int .i64 (i : Int)] ∧ H = [.cells [.str sec, .int .i64 nd, .sl false (.int .i64) hs, .str nz], .row true (.cons (.int .i64) (.cons .str .nil)) (splL sec nd hs nz), .row true (.cons (.int .i64) (.cons .str .nil)) (smK (splL sec nd hs nz) mask (splL sec nd hs nz).length), .row true .u8 (nsF ps sec.length (nd - 1).toNat k 0), .row true .u8 ([0] ++ xsL ((smK (splL sec nd hs nz) mask (splL sec nd hs nz).length).take i)), .row true .u8 ([(oth.take sec.length).getD k 0] ++ ysL ((smK (splL sec nd hs nz) mask (splL sec nd hs nz).length).take i) k)], ⟨rfl, (smK (splL sec nd hs nz) mask (splL sec nd hs nz).length).length, 0, by omega, by omega, rfl, rfl⟩, ?_⟩
                  rintro nM vs H ⟨i, hc2_0, rfl, rfl, rfl⟩
                  have hxl1 : ([0] ++ xsL ((smK (splL sec nd hs nz) mask (splL sec nd hs nz).length).take i)).length = 1 + i := by rw [List.length_append, xsL_len, List.length_take]; simp only [List.length_cons, List.length_nil]; omega
                  have hyl1 : ([(oth.take sec.length).getD k 0] ++ ysL ((smK (splL sec nd hs nz) mask (splL sec nd hs nz).length).take i) k).length = 1 + i := by rw [List.length_append, ysL_len, List.length_take]; simp only [List.length_cons, List.length_nil]; omega
                  refine ⟨fun h8 => ?_, fun h8 => ?_⟩
                  · replace h8 : (i : Int) < (((smK (splL sec nd hs nz) mask (splL sec nd hs nz).length).length : Nat) : Int) := h8
                    have hi : i < (smK (splL sec nd hs nz) mask (splL sec nd hs nz).length).length := by omega
                    have hm := hS.mem (hsub.subset (getD_mem (0, [], ()) (smK (splL sec nd hs nz) mask (splL sec nd hs nz).length) i hi))
                    have hmb := hm.2.1
                    obtain ⟨w1, w2⟩ := hm.1
                    have hxs : [0] ++ xsL ((smK (splL sec nd hs nz) mask (splL sec nd hs nz).length).take (i + 1)) = ([0] ++ xsL ((smK (splL sec nd hs nz) mask (splL sec nd hs nz).length).take i)) ++ [pt ((smK (splL sec nd hs nz) mask (splL sec nd hs nz).length).getD i (0, [], ())).1] := by rw [show xsL ((smK (splL sec nd hs nz) mask (splL sec nd hs nz).length).take (i + 1)) = _ from map_take_snoc (0, [], ()) _ (smK (splL sec nd hs nz) mask (splL sec nd hs nz).length) i hi, ← List.append_assoc]; rfl
                    have hys : [(oth.take sec.length).getD k 0] ++ ysL ((smK (splL sec nd hs nz) mask (splL sec nd hs nz).length).take (i + 1)) k = ([(oth.take sec.length).getD k 0] ++ ysL ((smK (splL sec nd hs nz) mask (splL sec nd hs nz).length).take i) k) ++ [((smK (splL sec nd hs nz) mask (splL sec nd hs nz).length).getD i (0, [], ())).2.1.getD k 0] := by rw [show ysL ((smK (splL sec nd hs nz) mask (splL sec nd hs nz).length).take (i + 1)) k = _ from map_take_snoc (0, [], ()) _ (smK (splL sec nd hs nz) mask (splL sec nd hs nz).length) i hi, ← List.append_assoc]; rfl
                    refine ⟨⟨by show (0 : Int) ≤ (i : Int); omega, by show (i : Int) < ((smK (splL sec nd hs nz) mask (splL sec nd hs nz).length).length : Int); omega⟩, ⟨rfl, rfl, rfl, Nat.le_of_ble_eq_true rfl⟩, fun h9 => ?_, fun h9 => ?_⟩
                    · replace h9 : ((((((smK (splL sec nd hs nz) mask (splL sec nd hs nz).length).getD i (0, ([], ()))).2).1).length : Nat) : Int) ≠ (sec.length : Int) := h9
                      omega
                    · replace h9 : ¬ (((((((smK (splL sec nd hs nz) mask (splL sec nd hs nz).length).getD i (0, ([], ()))).2).1).length : Nat) : Int) ≠ (sec.length : Int)) := h9
                      refine ⟨by kernel_rfl, ⟨by show (-9223372036854775808 : Int) ≤ ((((smK (splL sec nd hs nz) mask (splL sec nd hs nz).length).getD i (0, ([], ()))).1) + 1); omega, by show ((((smK (splL sec nd hs nz) mask (splL sec nd hs nz).length).getD i (0, ([], ()))).1) + 1) ≤ (9223372036854775807 : Int); omega⟩, ⟨rfl, rfl⟩, by show ([0] ++ xsL ((smK (splL sec nd hs nz) mask (splL sec nd hs nz).length).take i)).length + ([UInt8.ofNat (((((smK (splL sec nd hs nz) mask (splL sec nd hs nz).length).getD i (0, ([], ()))).1) + 1) % 256).toNat] : List UInt8).length ≤ 1000000000; simp only [List.length_cons, List.length_nil]; omega, ⟨by show (0 : Int) ≤ (k : Int); omega, by show (k : Int) < (((((smK (splL sec nd hs nz) mask (splL sec nd hs nz).length).getD i (0, ([], ()))).2).1).length : Int); omega⟩, ⟨rfl, rfl⟩, by show ([(oth.take sec.length).getD k 0] ++ ysL ((smK (splL sec nd hs nz) mask (splL sec nd hs nz).length).take i) k).length + ([((((smK (splL sec nd hs nz) mask (splL sec nd hs nz).length).getD i (0, ([], ()))).2).1).getD k 0] : List UInt8).length ≤ 1000000000; simp only [List.length_cons, List.length_nil]; omega, ⟨by show (-9223372036854775808 : Int) ≤ ((i : Int) + 1); omega, by show ((i : Int) + 1) ≤ (9223372036854775807 : Int); omega⟩, ?_⟩
                      exact ⟨rfl, (smK (splL sec nd hs nz) mask (splL sec nd hs nz).length).length - (i + 1), by omega, i + 1, by omega, rfl, rfl, by rw [hxs, hys]; rfl⟩
                  · replace h8 : ¬ ((i : Int) < (((smK (splL sec nd hs nz) mask (splL sec nd hs nz).length).length : Nat) : Int)) := h8
                    have ht : (smK (splL sec nd hs nz) mask (splL sec nd hs nz).length).take i = (smK (splL sec nd hs nz) mask (splL sec nd hs nz).length) := List.take_of_length_le (by omega)
                    have hx0 := hx_zero (smK (splL sec nd hs nz) mask (splL sec nd hs nz).length)
                    refine ⟨4, [(1, .k), (2, .k), (3, .k), (7, .k), (10, .k), (11, .k), (14, .k), (15, .k), (16, .o .u8), (17, .o .u8), (103, .k), (104, .k)], fun nM vs H => ∃ (j : Nat) (E : List UInt8), (((smK (splL sec nd hs nz) mask (splL sec nd hs nz).length).length + 1 + j : Nat) : Int) ≤ nd ∧ E.length = j ∧ nM = nd.toNat - ((smK (splL sec nd hs nz) mask (splL sec nd hs nz).length).length + 1 + j) ∧ vs = [.int .u16 mask, .str (oth.take sec.length), .ptr 0 1 0 0, .int .i64 (sec.length : Int), .own (.cons (.int .i64) (.cons .str .nil)) 2, .str (oth.drop sec.length), .own .u8 3, .int .i64 (k : Int), .own .u8 4, .own .u8 5, .int .i64 (sec.length : Int), .int .i64 (k : Int)] ∧ H = [.cells [.str sec, .int .i64 nd, .sl false (.int .i64) hs, .str nz], .row true (.cons (.int .i64) (.cons .str .nil)) (splL sec nd hs nz), .row true (.cons (.int .i64) (.cons .str .nil)) (smK (splL sec nd hs nz) mask (splL sec nd hs nz).length), .row true .u8 (nsF ps sec.length (nd - 1).toNat k 0), .row true .u8 (hxL (smK (splL sec nd hs nz) mask (splL sec nd hs nz).length) j), .row true .u8 ([(oth.take sec.length).getD k 0] ++ ysL (smK (splL sec nd hs nz) mask (splL sec nd hs nz).length) k ++ E)], ⟨rfl, nd.toNat - ((smK (splL sec nd hs nz) mask (splL sec nd hs nz).length).length + 1 + 0), 0, [], by omega, rfl, by omega, rfl, by rw [ht, hx0, List.append_nil]; rfl⟩, ?_⟩
                    rintro nM vs H ⟨j, E, hc3_0, hc3_1, rfl, rfl, rfl⟩
                    have hxl := hxL_len (smK (splL sec nd hs nz) mask (splL sec nd hs nz).length) j
                    have hyl : ([(oth.take sec.length).getD k 0] ++ ysL (smK (splL sec nd hs nz) mask (splL sec nd hs nz).length) k ++ E).length = (smK (splL sec nd hs nz) mask (splL sec nd hs nz).length).length + 1 + j := by rw [List.length_append, List.length_append, ysL_len, hc3_1]; simp only [List.length_cons, List.length_nil]; omega
                    refine ⟨fun h10 => ?_, fun h10 => ?_⟩
                    · replace h10 : (((hxL (smK (splL sec nd hs nz) mask (splL sec nd hs nz).length) j).length : Nat) : Int) < nd := h10
                      have hxs := hx_snoc (K := (smK (splL sec nd hs nz) mask (splL sec nd hs nz).length)) (j := j) (by omega)
                      refine ⟨⟨by show (-9223372036854775808 : Int) ≤ (7 * (((hxL (smK (splL sec nd hs nz) mask (splL sec nd hs nz).length) j).length : Nat) : Int)); omega, by show (7 * (((hxL (smK (splL sec nd hs nz) mask (splL sec nd hs nz).length) j).length : Nat) : Int)) ≤ (9223372036854775807 : Int); omega⟩, ⟨by show (-9223372036854775808 : Int) ≤ ((k : Int) * nd); omega, by show ((k : Int) * nd) ≤ (9223372036854775807 : Int); omega⟩, ⟨by show (-9223372036854775808 : Int) ≤ (((k : Int) * nd) + (((hxL (smK (splL sec nd hs nz) mask (splL sec nd hs nz).length) j).length : Nat) : Int)); omega, by show (((k : Int) * nd) + (((hxL (smK (splL sec nd hs nz) mask (splL sec nd hs nz).length) j).length : Nat) : Int)) ≤ (9223372036854775807 : Int); omega⟩, fun h11 => ?_, fun h11 => ?_⟩
                      · replace h11 : (((k : Int) * nd) + (((hxL (smK (splL sec nd hs nz) mask (splL sec nd hs nz).length) j).length : Nat) : Int)) < (((oth.drop sec.length).length : Nat) : Int) := h11
                        refine ⟨⟨by show (0 : Int) ≤ (((k : Int) * nd) + (((hxL (smK (splL sec nd hs nz) mask (splL sec nd hs nz).length) j).length : Nat) : Int)); omega, by show (((k : Int) * nd) + (((hxL (smK (splL sec nd hs nz) mask (splL sec nd hs nz).length) j).length : Nat) : Int)) < ((oth.drop sec.length).length : Int); omega⟩, ⟨by show (-9223372036854775808 : Int) ≤ (100 + (((hxL (smK (splL sec nd hs nz) mask (splL sec nd hs nz).length) j).length : Nat) : Int)); omega, by show (100 + (((hxL (smK (splL sec nd hs nz) mask (splL sec nd hs nz).length) j).length : Nat) : Int)) ≤ (9223372036854775807 : Int); omega⟩, ⟨rfl, rfl⟩, by show (hxL (smK (splL sec nd hs nz) mask (splL sec nd hs nz).length) j).length + ([UInt8.ofNat ((100 + (((hxL (smK (splL sec nd hs nz) mask (splL sec nd hs nz).length) j).length : Nat) : Int)) % 256).toNat] : List UInt8).length ≤ 1000000000; simp only [List.length_cons, List.length_nil]; omega, ⟨rfl, rfl⟩, by show ([(oth.take sec.length).getD k 0] ++ ysL (smK (splL sec nd hs nz) mask (splL sec nd hs nz).length) k ++ E).length + ([(oth.drop sec.length).getD ((((k : Int) * nd) + (((hxL (smK (splL sec nd hs nz) mask (splL sec nd hs nz).length) j).length : Nat) : Int)).toNat) 0] : List UInt8).length ≤ 1000000000; simp only [List.length_cons, List.length_nil]; omega, ?_⟩
                        first
                        | exact ⟨rfl, nd.toNat - ((smK (splL sec nd hs nz) mask (splL sec nd hs nz).length).length + 1 + (j + 1)), by omega, j + 1, E ++ [(oth.drop sec.length).getD ((((k : Int) * nd) + (((hxL (smK (splL sec nd hs nz) mask (splL sec nd hs nz).length) j).length : Nat) : Int)).toNat) 0], by omega, by rw [List.length_append, hc3_1]; rfl, rfl, rfl, by rw [hxs, show [(oth.take sec.length).getD k 0] ++ ysL (smK (splL sec nd hs nz) mask (splL sec nd hs nz).length) k ++ (E ++ [(oth.drop sec.length).getD ((((k : Int) * nd) + (((hxL (smK (splL sec nd hs nz) mask (splL sec nd hs nz).length) j).length : Nat) : Int)).toNat) 0]) = ([(oth.take sec.length).getD k 0] ++ ysL (smK (splL sec nd hs nz) mask (splL sec nd hs nz).length) k ++ E) ++ [(oth.drop sec.length).getD ((((k : Int) * nd) + (((hxL (smK (splL sec nd hs nz) mask (splL sec nd hs nz).length) j).length : Nat) : Int)).toNat) 0] from (List.append_assoc _ _ _).symm]; rfl⟩
                        | exact ⟨rfl, nd.toNat - ((smK (splL sec nd hs nz) mask (splL sec nd hs nz).length).length + 1 + (j + 1)), by omega, j + 1, E ++ [UInt8.ofNat ((7 * (((hxL (smK (splL sec nd hs nz) mask (splL sec nd hs nz).length) j).length : Nat) : Int)) % 256).toNat], by omega, by rw [List.length_append, hc3_1]; rfl, rfl, rfl, by rw [hxs, show [(oth.take sec.length).getD k 0] ++ ysL (smK (splL sec nd hs nz) mask (splL sec nd hs nz).length) k ++ (E ++ [UInt8.ofNat ((7 * (((hxL (smK (splL sec nd hs nz) mask (splL sec nd hs nz).length) j).length : Nat) : Int)) % 256).toNat]) = ([(oth.take sec.length).getD k 0] ++ ysL (smK (splL sec nd hs nz) mask (splL sec nd hs nz).length) k ++ E) ++ [UInt8.ofNat ((7 * (((hxL (smK (splL sec nd hs nz) mask (splL sec nd hs nz).length) j).length : Nat) : Int)) % 256).toNat] from (List.append_assoc _ _ _).symm]; rfl⟩
                      · replace h11 : ¬ ((((k : Int) * nd) + (((hxL (smK (splL sec nd hs nz) mask (splL sec nd hs nz).length) j).length : Nat) : Int)) < (((oth.drop sec.length).length : Nat) : Int)) := h11
                        refine ⟨⟨by show (-9223372036854775808 : Int) ≤ (100 + (((hxL (smK (splL sec nd hs nz) mask (splL sec nd hs nz).length) j).length : Nat) : Int)); omega, by show (100 + (((hxL (smK (splL sec nd hs nz) mask (splL sec nd hs nz).length) j).length : Nat) : Int)) ≤ (9223372036854775807 : Int); omega⟩, ⟨rfl, rfl⟩, by show (hxL (smK (splL sec nd hs nz) mask (splL sec nd hs nz).length) j).length + ([UInt8.ofNat ((100 + (((hxL (smK (splL sec nd hs nz) mask (splL sec nd hs nz).length) j).length : Nat) : Int)) % 256).toNat] : List UInt8).length ≤ 1000000000; simp only [List.length_cons, List.length_nil]; omega, ⟨rfl, rfl⟩, by show ([(oth.take sec.length).getD k 0] ++ ysL (smK (splL sec nd hs nz) mask (splL sec nd hs nz).length) k ++ E).length + ([UInt8.ofNat ((7 * (((hxL (smK (splL sec nd hs nz) mask (splL sec nd hs nz).length) j).length : Nat) : Int)) % 256).toNat] : List UInt8).length ≤ 1000000000; simp only [List.length_cons, List.length_nil]; omega, ?_⟩
                        first
                        | exact ⟨rfl, nd.toNat - ((smK (splL sec nd hs nz) mask (splL sec nd hs nz).length).length + 1 + (j + 1)), by omega, j + 1, E ++ [(oth.drop sec.length).getD ((((k : Int) * nd) + (((hxL (smK (splL sec nd hs nz) mask (splL sec nd hs nz).length) j).length : Nat) : Int)).toNat) 0], by omega, by rw [List.length_append, hc3_1]; rfl, rfl, rfl, by rw [hxs, show [(oth.take sec.length).getD k 0] ++ ysL (smK (splL sec nd hs nz) mask (splL sec nd hs nz).length) k ++ (E ++ [(oth.drop sec.length).getD ((((k : Int) * nd) + (((hxL (smK (splL sec nd hs nz) mask (splL sec nd hs nz).length) j).length : Nat) : Int)).toNat) 0]) = ([(oth.take sec.length).getD k 0] ++ ysL (smK (splL sec nd hs nz) mask (splL sec nd hs nz).length) k ++ E) ++ [(oth.drop sec.length).getD ((((k : Int) * nd) + (((hxL (smK (splL sec nd hs nz) mask (splL sec nd hs nz).length) j).length : Nat) : Int)).toNat) 0] from (List.append_assoc _ _ _).symm]; rfl⟩
                        | exact ⟨rfl, nd.toNat - ((smK (splL sec nd hs nz) mask (splL sec nd hs nz).length).length + 1 + (j + 1)), by omega, j + 1, E ++ [UInt8.ofNat ((7 * (((hxL (smK (splL sec nd hs nz) mask (splL sec nd hs nz).length) j).length : Nat) : Int)) % 256).toNat], by omega, by rw [List.length_append, hc3_1]; rfl, rfl, rfl, by rw [hxs, show [(oth.take sec.length).getD k 0] ++ ysL (smK (splL sec nd hs nz) mask (splL sec nd hs nz).length) k ++ (E ++ [UInt8.ofNat ((7 * (((hxL (smK (splL sec nd hs nz) mask (splL sec nd hs nz).length) j).length : Nat) : Int)) % 256).toNat]) = ([(oth.take sec.length).getD k 0] ++ ysL (smK (splL sec nd hs nz) mask (splL sec nd hs nz).length) k ++ E) ++ [UInt8.ofNat ((7 * (((hxL (smK (splL sec nd hs nz) mask (splL sec nd hs nz).length) j).length : Nat) : Int)) % 256).toNat] from (List.append_assoc _ _ _).symm]; rfl⟩
                    · replace h10 : ¬ ((((hxL (smK (splL sec nd hs nz) mask (splL sec nd hs nz).length) j).length : Nat) : Int) < nd) := h10
                      have hip := hid_ip hKc (oth := (oth.take sec.length)) (nd := nd) (k := k) (j := j) (by omega) hn12 hc3_1
                      have hpl := hip.2.len
                      refine ⟨⟨by show (hxL (smK (splL sec nd hs nz) mask (splL sec nd hs nz).length) j).length ≤ 10000; first | omega | assumption, by show ([(oth.take sec.length).getD k 0] ++ ysL (smK (splL sec nd hs nz) mask (splL sec nd hs nz).length) k ++ E).length ≤ 10000; rw [List.length_append, List.length_append, ysL_len, hc3_1]; simp only [List.length_cons, List.length_nil]; omega⟩, fun h12 => ?_, fun h12 => ?_⟩
                      · replace h12 : ¬ (((ipL (hxL (smK (splL sec nd hs nz) mask (splL sec nd hs nz).length) j) ([(oth.take sec.length).getD k 0] ++ ysL (smK (splL sec nd hs nz) mask (splL sec nd hs nz).length) k ++ E)).2) ≠ 0) := h12
                        refine ⟨fun h13 => ?_, fun h13 => ?_⟩
                        · replace h13 : nd < ((((ipL (hxL (smK (splL sec nd hs nz) mask (splL sec nd hs nz).length) j) ([(oth.take sec.length).getD k 0] ++ ysL (smK (splL sec nd hs nz) mask (splL sec nd hs nz).length) k ++ E)).1).length : Nat) : Int) := h13
                          omega
                        · replace h13 : ¬ (nd < ((((ipL (hxL (smK (splL sec nd hs nz) mask (splL sec nd hs nz).length) j) ([(oth.take sec.length).getD k 0] ++ ysL (smK (splL sec nd hs nz) mask (splL sec nd hs nz).length) k ++ E)).1).length : Nat) : Int)) := h13
                          refine ⟨7, [(1, .k), (2, .k), (3, .k), (7, .k), (10, .k), (11, .k), (14, .k), (15, .k), (22, .k), (24, .k), (103, .k), (104, .k)], fun nM vs H => ∃ (a : Nat), a ≤ ((ipL (hxL (smK (splL sec nd hs nz) mask (splL sec nd hs nz).length) j) ([(oth.take sec.length).getD k 0] ++ ysL (smK (splL sec nd hs nz) mask (splL sec nd hs nz).length) k ++ E)).1).length ∧ nM = ((ipL (hxL (smK (splL sec nd hs nz) mask (splL sec nd hs nz).length) j) ([(oth.take sec.length).getD k 0] ++ ysL (smK (splL sec nd hs nz) mask (splL sec nd hs nz).length) k ++ E)).1).length - (a + 1) ∧ vs = [.int .u16 mask, .str (oth.take sec.length), .ptr 0 1 0 0, .int .i64 (sec.length : Int), .own (.cons (.int .i64) (.cons .str .nil)) 2, .str (oth.drop sec.length), .own .u8 3, .int .i64 (k : Int), .own .u8 6, .int .i64 ((a : Int) + 1), .int .i64 (sec.length : Int), .int .i64 (k : Int)] ∧ H = [.cells [.str sec, .int .i64 nd, .sl false (.int .i64) hs, .str nz], .row true (.cons (.int .i64) (.cons .str .nil)) (splL sec nd hs nz), .row true (.cons (.int .i64) (.cons .str .nil)) (smK (splL sec nd hs nz) mask (splL sec nd hs nz).length), .row true .u8 (nsF (upP ps k ((ipL (hxL (smK (splL sec nd hs nz) mask (splL sec nd hs nz).length) j) ([(oth.take sec.length).getD k 0] ++ ysL (smK (splL sec nd hs nz) mask (splL sec nd hs nz).length) k ++ E)).1)) sec.length (nd - 1).toNat k a), .row true .u8 (hxL (smK (splL sec nd hs nz) mask (splL sec nd hs nz).length) j), .row true .u8 ([(oth.take sec.length).getD k 0] ++ ysL (smK (splL sec nd hs nz) mask (splL sec nd hs nz).length) k ++ E), .row true .u8 ((ipL (hxL (smK (splL sec nd hs nz) mask (splL sec nd hs nz).length) j) ([(oth.take sec.length).getD k 0] ++ ysL (smK (splL sec nd hs nz) mask (splL sec nd hs nz).length) k ++ E)).1)], ⟨rfl, ((ipL (hxL (smK (splL sec nd hs nz) mask (splL sec nd hs nz).length) j) ([(oth.take sec.length).getD k 0] ++ ysL (smK (splL sec nd hs nz) mask (splL sec nd hs nz).length) k ++ E)).1).length - (0 + 1), 0, by omega, by omega, rfl, by rw [nsF_up]; rfl⟩, ?_⟩
                          rintro nM vs H ⟨a, hc4_0, rfl, rfl, rfl⟩
                          refine ⟨fun h14 => ?_, fun h14 => ?_⟩
                          · replace h14 : ((a : Int) + 1) < ((((ipL (hxL (smK (splL sec nd hs nz) mask (splL sec nd hs nz).length) j) ([(oth.take sec.length).getD k 0] ++ ysL (smK (splL sec nd hs nz) mask (splL sec nd hs nz).length) k ++ E)).1).length : Nat) : Int) := h14
                            have e1 : ((((a : Int) + 1) - 1) * (sec.length : Int)) = ((a * sec.length : Nat) : Int) := by rw [show ((a : Int) + 1) - 1 = (a : Int) by omega, Int.natCast_mul]
                            have e2 := at_lt (n := sec.length) (m := (nd - 1).toNat) (k := k) (a := a) (by omega) (by omega)
                            have e4 : a * sec.length ≤ 12 * 4096 := Nat.mul_le_mul (by omega) (by omega)
                            have ex : ((((((a : Int) + 1) - 1) * (sec.length : Int)) + (k : Int)).toNat) = a * sec.length + k := by omega
                            have hst : (nsF (upP ps k ((ipL (hxL (smK (splL sec nd hs nz) mask (splL sec nd hs nz).length) j) ([(oth.take sec.length).getD k 0] ++ ysL (smK (splL sec nd hs nz) mask (splL sec nd hs nz).length) k ++ E)).1)) sec.length (nd - 1).toNat k a).set ((((((a : Int) + 1) - 1) * (sec.length : Int)) + (k : Int)).toNat) (((ipL (hxL (smK (splL sec nd hs nz) mask (splL sec nd hs nz).length) j) ([(oth.take sec.length).getD k 0] ++ ysL (smK (splL sec nd hs nz) mask (splL sec nd hs nz).length) k ++ E)).1).getD (((a : Int) + 1).toNat) 0) = nsF (upP ps k ((ipL (hxL (smK (splL sec nd hs nz) mask (splL sec nd hs nz).length) j) ([(oth.take sec.length).getD k 0] ++ ysL (smK (splL sec nd hs nz) mask (splL sec nd hs nz).length) k ++ E)).1)) sec.length (nd - 1).toNat k (a + 1) := by (rw [ex, show ((a : Int) + 1).toNat = a + 1 by omega]; have := nsF_set (ps := (upP ps k ((ipL (hxL (smK (splL sec nd hs nz) mask (splL sec nd hs nz).length) j) ([(oth.take sec.length).getD k 0] ++ ysL (smK (splL sec nd hs nz) mask (splL sec nd hs nz).length) k ++ E)).1))) (n := sec.length) (m := (nd - 1).toNat) (k := k) (a := a) (by omega) (by omega); rw [upP_self] at this; exact this)
                            have hnl2 := nsF_len (upP ps k ((ipL (hxL (smK (splL sec nd hs nz) mask (splL sec nd hs nz).length) j) ([(oth.take sec.length).getD k 0] ++ ysL (smK (splL sec nd hs nz) mask (splL sec nd hs nz).length) k ++ E)).1)) sec.length (nd - 1).toNat k a
                            refine ⟨⟨by show (-9223372036854775808 : Int) ≤ (((a : Int) + 1) - 1); omega, by show (((a : Int) + 1) - 1) ≤ (9223372036854775807 : Int); omega⟩, ⟨by show (-9223372036854775808 : Int) ≤ ((((a : Int) + 1) - 1) * (sec.length : Int)); omega, by show ((((a : Int) + 1) - 1) * (sec.length : Int)) ≤ (9223372036854775807 : Int); omega⟩, ⟨by show (-9223372036854775808 : Int) ≤ (((((a : Int) + 1) - 1) * (sec.length : Int)) + (k : Int)); omega, by show (((((a : Int) + 1) - 1) * (sec.length : Int)) + (k : Int)) ≤ (9223372036854775807 : Int); omega⟩, ⟨by show (0 : Int) ≤ (a : Int) + 1; omega, by show (a : Int) + 1 < (((ipL (hxL (smK (splL sec nd hs nz) mask (splL sec nd hs nz).length) j) ([(oth.take sec.length).getD k 0] ++ ysL (smK (splL sec nd hs nz) mask (splL sec nd hs nz).length) k ++ E)).1).length : Int); omega⟩, ⟨by show (0 : Int) ≤ (((((a : Int) + 1) - 1) * (sec.length : Int)) + (k : Int)); omega, by show (((((a : Int) + 1) - 1) * (sec.length : Int)) + (k : Int)) < ((nsF (upP ps k ((ipL (hxL (smK (splL sec nd hs nz) mask (splL sec nd hs nz).length) j) ([(oth.take sec.length).getD k 0] ++ ysL (smK (splL sec nd hs nz) mask (splL sec nd hs nz).length) k ++ E)).1)) sec.length (nd - 1).toNat k a).length : Int); omega⟩, ⟨rfl, rfl⟩, ⟨by show (-9223372036854775808 : Int) ≤ (((a : Int) + 1) + 1); omega, by show (((a : Int) + 1) + 1) ≤ (9223372036854775807 : Int); omega⟩, ?_⟩
                            exact ⟨rfl, ((ipL (hxL (smK (splL sec nd hs nz) mask (splL sec nd hs nz).length) j) ([(oth.take sec.length).getD k 0] ++ ysL (smK (splL sec nd hs nz) mask (splL sec nd hs nz).length) k ++ E)).1).length - (a + 1 + 1), by omega, a + 1, by omega, rfl, rfl, by rw [← hst]; rfl⟩
                          · replace h14 : ¬ (((a : Int) + 1) < ((((ipL (hxL (smK (splL sec nd hs nz) mask (splL sec nd hs nz).length) j) ([(oth.take sec.length).getD k 0] ++ ysL (smK (splL sec nd hs nz) mask (splL sec nd hs nz).length) k ++ E)).1).length : Nat) : Int)) := h14
                            have hnx : nsF (upP ps k ((ipL (hxL (smK (splL sec nd hs nz) mask (splL sec nd hs nz).length) j) ([(oth.take sec.length).getD k 0] ++ ysL (smK (splL sec nd hs nz) mask (splL sec nd hs nz).length) k ++ E)).1)) sec.length (nd - 1).toNat (k + 1) 0 = nsF (upP ps k ((ipL (hxL (smK (splL sec nd hs nz) mask (splL sec nd hs nz).length) j) ([(oth.take sec.length).getD k 0] ++ ysL (smK (splL sec nd hs nz) mask (splL sec nd hs nz).length) k ++ E)).1)) sec.length (nd - 1).toNat k a := (nsF_next fun b hb => by rw [upP_self, List.getD_eq_getElem?_getD, List.getElem?_eq_none (by omega)]; rfl).symm
                            refine ⟨⟨by show (-9223372036854775808 : Int) ≤ ((k : Int) + 1); omega, by show ((k : Int) + 1) ≤ (9223372036854775807 : Int); omega⟩, ?_⟩
                            exact ⟨rfl, sec.length - (k + 1), by omega, k + 1, (upP ps k ((ipL (hxL (smK (splL sec nd hs nz) mask (splL sec nd hs nz).length) j) ([(oth.take sec.length).getD k 0] ++ ysL (smK (splL sec nd hs nz) mask (splL sec nd hs nz).length) k ++ E)).1)), by omega, hid_up hc1_1 hip.2, rfl, rfl, by rw [hnx]; rfl⟩
                      · replace h12 : ((ipL (hxL (smK (splL sec nd hs nz) mask (splL sec nd hs nz).length) j) ([(oth.take sec.length).getD k 0] ++ ysL (smK (splL sec nd hs nz) mask (splL sec nd hs nz).length) k ++ E)).2) ≠ 0 := h12
                        exact absurd hip.1 h12
                · replace h7 : ¬ ((k : Int) < (sec.length : Int)) := h7
                  have hk : k = sec.length := by omega
                  obtain ⟨hS2, hsm⟩ := hides hS hol mask (ps := ps) (fun i hi => hc1_1 i (by omega))
                  rw [hol] at hS2 hsm
                  have hkn : nsF ps sec.length (nd - 1).toNat k 0 = nsF ps sec.length (nd - 1).toNat sec.length 0 := by rw [hk]
                  rw [← hkn] at hS2 hsm
                  have hl2 := hS2.llen
                  refine ⟨rfl, ⟨by show (oth.take sec.length).length ≤ 1048576; first | omega | assumption | (simp only [List.length_cons, List.length_nil, List.length_append, List.length_take, List.length_drop, List.length_set, List.length_replicate]; omega), by show hs.length ≤ 1048576; first | omega | assumption, by show (nsF ps sec.length (nd - 1).toNat k 0).length ≤ 1048576; first | omega | assumption⟩, trivial, fun h15 => ?_, fun h15 => absurd (show True by simp) h15⟩
                  refine ⟨fun h16 => ?_, fun h16 => ?_⟩
                  · replace h16 : (splE (oth.take sec.length) nd hs (nsF ps sec.length (nd - 1).toNat k 0)) = 0 := h16
                    refine ⟨rfl, ⟨Nat.le_trans (spl_12 _ _ _ _) (by omega), by show 0 ≤ mask; first | omega | assumption⟩, ⟨Nat.le_trans (smK_len _ _ _) (Nat.le_trans (spl_12 _ _ _ _) (by omega)), Nat.le_trans (smK_len _ _ _) (Nat.le_trans (spl_12 _ _ _ _) (by omega))⟩, ?_⟩
                    exact ⟨rfl, rfl, congrArg V.b (propext ⟨fun _ => trivial, fun _ => hsm⟩), rfl⟩
                  · replace h16 : ¬ ((splE (oth.take sec.length) nd hs (nsF ps sec.length (nd - 1).toNat k 0)) = 0) := h16
                    exact absurd hS2.e h16
            · replace h5 : ¬ (ftP (smK (splL sec nd hs nz) mask (splL sec nd hs nz).length) nd (oth.take sec.length)) := h5
              exact absurd hfp h5
        · replace h3 : (splE sec nd hs nz) ≠ 0 := h3
          refine ⟨trivial, ?_⟩
          exact ⟨rfl, rfl, rfl, rfl⟩
    · replace h1 : (oth.length : Int) < (sec.length : Int) := h1
      refine ⟨trivial, ?_⟩
      exact ⟨rfl, rfl, rfl, rfl⟩
  · replace h0 : ¬ (smlP sec hs 40) := h0
    refine ⟨trivial, ?_⟩
    exact ⟨rfl, rfl, rfl, rfl⟩
end Go.Proofs.YtakbedmeieeekaaDoor.S26

namespace Go.Proofs.YtakbedmeieeekaaDoor
open Go Go.Proofs.YtakbedmeieeekaaDoor.Vc Go.Proofs Go.Proofs.YtakbedmeieeekaaDoor.S26 Go.ChangeShapes Go.WideShapes Go.ChangeAt Go.RowKit
set_option maxRecDepth 100000
set_option linter.unusedVariables false
namespace Cd.splitHides
open Go.Proofs.YtakbedmeieeekaaDoor.Cd
theorem deep0 : Deep Tryd.prog (.cons .str (.cons (.int .i64) (.cons (.sl (.int .i64)) (.cons .str .nil)))) (.inl 24) := ⟨_, _, _, Tryd.underlying24, rfl, by kernel_rfl, by kernel_rfl, by kernel_rfl, Tryd.underlying9, ⟨by kernel_rfl, by kernel_rfl, Tryd.underlying3, ⟨by kernel_rfl, by kernel_rfl, ⟨3, Tryd.underlying22, by kernel_rfl, by decide, Tryd.underlying3⟩, ⟨by kernel_rfl, by kernel_rfl, Tryd.underlying9, trivial⟩⟩⟩⟩
theorem rec0 : Tryd.prog.readableRec 24 = true := by kernel_rfl
theorem lt0 : 24 < Tryd.prog.types.size := of_decide_eq_true (by kernel_rfl)
theorem deep1 : Deep Tryd.prog (.int .u16) (.inl 65) := Tryd.underlying65
theorem rec1 : Tryd.prog.readableRec 65 = true := by kernel_rfl
theorem lt1 : 65 < Tryd.prog.types.size := of_decide_eq_true (by kernel_rfl)
theorem deep2 : Deep Tryd.prog .str (.inl 9) := Tryd.underlying9
theorem rec2 : Tryd.prog.readableRec 9 = true := by kernel_rfl
theorem lt2 : 9 < Tryd.prog.types.size := of_decide_eq_true (by kernel_rfl)
theorem globs {W : World} (h : laidMetH Tryd.prog Rows.splitHidesUptoRow.laid W) : ∀ g x, lk G6 g = some x → VRel (c0 W) [] W x (.pointer (some ⟨g, 0, none⟩)) := fun g x hx => by
  have hg : Tryd.prog.globalNamed "quietus/gf.high" = some 0 := by kernel_rfl
  have ht : Lib.TabIs Tryd.prog W "quietus/gf.high" .u8 [0, 29, 58, 39, 116, 105, 78, 83, 232, 245, 210, 207, 156, 129, 166, 187] := Lib.tabIs_of_head (rest := []) hg (by kernel_rfl) Tryd.underlying131 Tryd.underlying5 (by kernel_rfl) (by kernel_rfl) h
  have key : ∀ i, i < 16 → ([0, 29, 58, 39, 116, 105, 78, 83, 232, 245, 210, 207, 156, 129, 166, 187] : List Int).getD i 0 = ((hi.getD i 0).toNat : Int) := by decide
  have hc : ∀ i, i < hi.length → W.cell? ⟨0, i, none⟩ = some (.int .u8 ((hi.getD i 0).toNat : Int)) := fun i hi' => by
    have := ht.cell hg i hi'
    rwa [key i hi'] at this
  unfold G6 lk at hx
  cases hb : Nat.beq 0 g with
  | false => rw [hb] at hx; simp [lk] at hx
  | true =>
    rw [hb] at hx
    simp only [cond_true, Option.some.injEq] at hx
    have := beq_ok hb
    subst this hx
    exact tab_ok (spot_none (hc 0 (by decide))).2 hc rfl
theorem contract (H : Type) (enc : TypeId × Value → H) (W : World) (base : Nat) (args : Array Value) (ds gs : List (DataW H)) (before : List MemPlace)
    (hval : ∀ (j : Nat) t v, Tryd.f10.params[j]? = some t → args[j]? = some v → Value.okWide Tryd.prog W .any base t v)
    (hW : DataW.Whole enc Tryd.prog Tryd.f10.params.toList Rows.splitHidesSpec.vars false W args.toList ds gs before) (hc : Rows.uptoSmall H (ds ++ gs) = true) (hL : laidMetH Tryd.prog Rows.splitHidesUptoRow.laid W) :
    Calls Tryd.prog 10 args W fun e W' => ∃ v, e = .returned v ∧ Rows.splitHidesSpec.post enc Tryd.prog Tryd.f10 false true false false W args v W' := by
  have hW' := hW
  obtain ⟨p, q, hA0, hV, rfl, hfz, hnd⟩ := hW
  have hA : DataW.TrodAll enc Tryd.prog W 0 (fun _ => true) true Tryd.f10.params.toList args.toList ds p := hA0
  rw [Tryd.params10] at hA hval
  obtain ⟨v0, vs0, d0, ds0, p0, q0, hargs, rfl, rfl, h0, r0⟩ := trodAll_cons hA
  obtain ⟨v1, vs1, d1, ds1, p1, q1, rfl, rfl, rfl, h1, r1⟩ := trodAll_cons r0
  obtain ⟨v2, vs2, d2, ds2, p2, q2, rfl, rfl, rfl, h2, r2⟩ := trodAll_cons r1
  obtain ⟨rfl, rfl, rfl⟩ := trodAll_nil r2
  obtain rfl : args = #[v0, v1, v2] := by cases args; simp_all
  obtain ⟨rfl, rfl⟩ := trodVars_none hV
  obtain ⟨x0, rel0, w0, wf0⟩ := arg_ok (bk := Rows.uptoBulk) bulk deep0 (hval 0 24 v0 rfl rfl) h0
  obtain ⟨x1, rel1, w1, wf1⟩ := arg_ok (bk := Rows.uptoBulk) bulk deep1 (hval 1 65 v1 rfl rfl) h1
  obtain ⟨x2, rel2, w2, wf2⟩ := arg_ok (bk := Rows.uptoBulk) bulk deep2 (hval 2 9 v2 rfl rfl) h2
  have hsum : Rows.uptoBulkAll [d0, d1, d2] ≤ 1048576 := by simpa [Rows.uptoSmall] using hc
  simp only [Rows.uptoBulkAll] at hsum
  have hlt : ∀ x ∈ p0 ++ p1 ++ p2, x.block < W.heap.size := fun x hx => by simpa using hW'.lt x (by simpa using hx)
  refine (law_ok (kSan.frz [1000002, 4000000, 4000110]) rfl Tryd.func10 (.cons _ _ _ _ rel0 (.cons _ _ _ _ rel1 (.cons _ _ _ _ rel2 (VRels.nil)))) (globs hL) (bLHid x0.1 x0.2.1 x0.2.2.1 x0.2.2.2.1 x1 x2 (mxT (N := 1048576) (t := x0) (by omega)).1 (mxT (N := 1048576) (t := x0) (by omega)).2.1 (mxT (N := 1048576) (t := x0) (by omega)).2.2 wf1.1 wf1.2 (by have e : wt .str x2 = List.length x2 + 1 := rfl; omega))).mono fun e W' ⟨he, hb⟩ => ?_
  subst he
  exact ⟨_, rfl, post_same (pa := (p0 ++ (p1 ++ (p2 ++ [])))) (pv := []) hW' (fun _ _ _ => trodAll_cons_mk (shut_bool Tryd.underlying4 _) trodAll_mk0) (fun sp hsp => trodAll_cons_mk (WideElems.Trod_stays laidOut rec0 lt0 h0 (fun x hx => hb.same (hlt x (by simp [hx]))) (fun x hx => hsp x (by simp [hx]))) (trodAll_cons_mk (WideElems.Trod_stays laidOut rec1 lt1 h1 (fun x hx => hb.same (hlt x (by simp [hx]))) (fun x hx => hsp x (by simp [hx]))) (trodAll_cons_mk (WideElems.Trod_stays laidOut rec2 lt2 h2 (fun x hx => hb.same (hlt x (by simp [hx]))) (fun x hx => hsp x (by simp [hx]))) (trodAll_mk0)))) (fun _ _ => rfl) rfl hb (ok_one (by kernel_rfl) rfl (okWide_bool_mk Tryd.underlying4 _))⟩
noncomputable def laidWorld (os : Os) : World :=
  { World.holding Tryd.prog os ⟨#[], #[], []⟩ with heap := (World.holding Tryd.prog os ⟨#[], #[], []⟩).heap.modify 0 fun
      | .cells _ t frozen => .cells #[.int .u8 0, .int .u8 29, .int .u8 58, .int .u8 39, .int .u8 116, .int .u8 105, .int .u8 78, .int .u8 83, .int .u8 232, .int .u8 245, .int .u8 210, .int .u8 207, .int .u8 156, .int .u8 129, .int .u8 166, .int .u8 187] t frozen
      | o => o }
theorem laid_met (os : Os) : laidMet Tryd.prog Rows.splitHidesUptoRow.laid ((laidWorld os).forCall (fun _ _ => 0) ⟨#[], #[.agg #[.string ⟨#[]⟩, .int .i64 0, .slice none 0 0, .string ⟨#[]⟩], .int .u16 0, .string ⟨#[]⟩], []⟩).memory :=
  laidMet_of_run' 8 (by kernel_rfl) (by kernel_rfl)
theorem reads (os : Os) {H : Type} (enc : TypeId × Value → H) : ∃ places, DataW.whole enc Tryd.prog ((laidWorld os).forCall (fun _ _ => 0) ⟨#[], #[.agg #[.string ⟨#[]⟩, .int .i64 0, .slice none 0 0, .string ⟨#[]⟩], .int .u16 0, .string ⟨#[]⟩], []⟩).memory Tryd.f10.params.toList Rows.splitHidesSpec.vars false (#[.agg #[.string ⟨#[]⟩, .int .i64 0, .slice none 0 0, .string ⟨#[]⟩], .int .u16 0, .string ⟨#[]⟩] : Array Value).toList 8 = some ([.agg [.lit (.string []), .lit (.int .i64 0), .nil, .lit (.string [])], .lit (.int .u16 0), .lit (.string [])], [], places) :=
  ⟨[], by kernel_rfl⟩
theorem liftedUpto (os : Os) (started : os.Started) (H : Type) (enc : TypeId × Value → H) (F : Stop.Interp) :
    ReturnsInHanded {} Tryd.checked os 10 .any ((Rows.OpenSpec.upto Rows.splitHidesSpec).preRow enc Tryd.prog Tryd.f10 Rows.splitHidesUptoRow.domain false Rows.splitHidesUptoRow.laid) (((Rows.OpenSpec.upto Rows.splitHidesSpec).at F).post enc Tryd.prog Tryd.f10 false true false false) := by
  obtain ⟨places, hx⟩ := reads os enc
  refine returnsInHanded_of_row (C := Tryd.checked) (s := Rows.OpenSpec.upto Rows.splitHidesSpec) own started (by kernel_rfl) Tryd.func10
    (witness_row_at (enc := enc) (C := Tryd.checked) false (laidWorld os) #[.agg #[.string ⟨#[]⟩, .int .i64 0, .slice none 0 0, .string ⟨#[]⟩], .int .u16 0, .string ⟨#[]⟩] rfl (by kernel_rfl) (by kernel_rfl) (by kernel_rfl)
      (OpenSpec.preRow_of_cond 8 hx (by kernel_rfl) (fun k hk => by cases hk; kernel_rfl) (by kernel_rfl) (laid_met os))) ?_
  intro W base args ds gs before hval hW _ hcond _ hL _ _
  exact contract H enc W base args ds gs before hval hW (hcond _ rfl) hL
theorem saidUpto : Rows.SplitHidesUptoSaid :=
  OpenClaim.holds_of_cond 10 Tryd.f10 rfl rfl rfl rfl rfl rfl rfl ⟨rfl, rfl, rfl, rfl, rfl⟩ rfl rfl rfl rfl rfl (by kernel_rfl) Tryd.func10 (by kernel_rfl)
    (of_decide_eq_true (by kernel_rfl)) (by unfold Func.isWrapper; first | (rw [if_pos (by decide +kernel)]; kernel_rfl) | (rw [if_neg (by decide +kernel)]; exact ⟨rfl, rfl⟩))
    (fun os started H enc _ F => by rw [OpenClaim.pre_eq_preRow]; exact liftedUpto os started H enc F)
theorem plain (f : FuncId) (fn : Func) (hf : Tryd.pinned.checked.prog.funcNamed "quietus/quietuslaw26.SplitHides" = some f) (hfn : Tryd.pinned.checked.prog.funcs[f]? = some fn) :
    false = Tryd.pinned.checked.prog.looks [] ∧ ∀ (j : Nat) t, fn.params[j]? = some t → Tryd.pinned.checked.prog.wantsStandIn t = false := by
  obtain rfl : f = 10 := Option.some.inj ((show Tryd.prog.funcNamed "quietus/quietuslaw26.SplitHides" = some 10 by kernel_rfl).symm.trans hf) |>.symm
  obtain rfl : fn = Tryd.f10 := (Option.some.inj (Tryd.func10.symm.trans hfn)).symm
  refine ⟨by kernel_rfl, fun j t ht => ?_⟩
  rw [Tryd.params10] at ht
  have hm := Array.mem_of_getElem? ht
  simp only [List.mem_toArray, List.mem_cons, List.not_mem_nil, or_false] at hm
  rcases hm with rfl | rfl | rfl
  · exact (show Tryd.prog.wantsStandIn 24 = false by kernel_rfl)
  · exact (show Tryd.prog.wantsStandIn 65 = false by kernel_rfl)
  · exact (show Tryd.prog.wantsStandIn 9 = false by kernel_rfl)
theorem cardUpto : Rows.SplitHidesUptoCardSaid :=
  Claim7.holds_tied_plain_at .later [] _ _ _ _ saidUpto (fun _ h => by cases h) (by kernel_rfl) (fun _ h => by cases h) splitHidesUpto_row_tie rfl ⟨rfl, rfl⟩ (by kernel_rfl) rfl plain (by kernel_rfl)
end Cd.splitHides
theorem splitHides_holds : Rows.SplitHidesUptoCardSaid := Cd.splitHides.cardUpto
end Go.Proofs.YtakbedmeieeekaaDoor

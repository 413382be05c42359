/- Texts of this claim: S29.A4, S29.Pe, S29.R1, S29.L1. -/
import Derived.Test.YtgljcfnplkcfhaaS1
import Derived.Test.YtgljcfnplkcfhaaVc8
set_option linter.unusedVariables false
set_option linter.unusedSimpArgs false
namespace Go.Proofs.Ytgljcfnplkcfhaa.S29
open Go Go.Proofs.Ytgljcfnplkcfhaa.Vc Go.Proofs
set_option maxRecDepth 100000
set_option linter.unusedVariables false

def sLst : List V → Option (Prop × V × List Blk)
  | [.agg [.int .i64 b, .int .i64 l, .int .i64 d, .int .i64 m, .sl false (.int .i64) hs], .int .i64 bad, .sl false (.cons (.int .i64) (.cons (.int .i64) .nil)) a] => some (hs.length ≤ 2000000 ∧ a.length ≤ 2000000, .tup [.own (.int .i64) 0, .int .i64 (lstE b l d m hs bad a)], [.row true (.int .i64) (lstL b l d m hs bad a)])
  | _ => none
set_option maxHeartbeats 4000000 in
theorem bLst (b : Int) (l : Int) (d : Int) (m : Int) (hs : List Int) (bad : Int) (a : List (Int × (Int × Unit))) (hp0 : hs.length ≤ 2000000) (hp1 : a.length ≤ 2000000) : bodyP (En CLok tys [] QAt) Try.f35 [.o (.int .i64), .k] [.agg [.int .i64 b, .int .i64 l, .int .i64 d, .int .i64 m, .sl false (.int .i64) hs], .int .i64 bad, .sl false (.cons (.int .i64) (.cons (.int .i64) .nil)) a] (.tup [.own (.int .i64) 0, .int .i64 (lstE b l d m hs bad a)]) [.row true (.int .i64) (lstL b l d m hs bad a)] := by
  refine ⟨rfl, rfl, rfl, rfl, rfl, ⟨by show hs.length ≤ 2000000; first | omega | assumption, by show a.length ≤ 2000000; first | omega | assumption⟩, fun h0 => ?_, fun h0 => ?_⟩
  · replace h0 : (redL b l d m hs bad a) ≠ 0 := h0
    rw [show lstL b l d m hs bad a = [] from if_neg (by unfold lstE; rw [if_neg h0]; exact h0), show lstE b l d m hs bad a = redL b l d m hs bad a from if_neg h0]
    exact ⟨rfl, rfl, rfl, rfl⟩
  · replace h0 : ¬ ((redL b l d m hs bad a) ≠ 0) := h0
    obtain ⟨hc, hb0, hb1, hca1, hca2⟩ := red0 (Classical.not_not.1 h0)
    obtain ⟨q1, q2, q3, q4, q5, q6, q7, q8, q9, q10, q11⟩ := id hc
    have hml := mk_len (cntL b l d).toNat (seenC b l d hs bad [])
    have hkn : cntF (fun i => ((mk (cntL b l d).toNat (seenC b l d hs bad [])).getD 0 (List.replicate 12 false)).getD i false) 12 = knwL b l d hs bad := mk_row_cnt (by omega) _
    have hk12 := cntF_le (fun i => ((mk (cntL b l d).toNat (seenC b l d hs bad [])).getD 0 (List.replicate 12 false)).getD i false) 12
    have hneed : max 0 (m - (cntF (fun i => ((mk (cntL b l d).toNat (seenC b l d hs bad [])).getD 0 (List.replicate 12 false)).getD i false) 12 : Int)) = lstN b l d m hs bad := by rw [hkn]; rfl
    have htl := telL_len b l d m hs bad a
    refine ⟨fun h1 => ?_, fun h1 => ?_⟩
    · replace h1 : (((telL b l d m hs bad a).length : Nat) : Int) = 0 := h1
      have e1 : (telL b l d m hs bad a) = [] := List.eq_nil_of_length_eq_zero (by omega)
      have e2 : lstE b l d m hs bad a = 8 := by unfold lstE; rw [if_pos (Classical.not_not.1 h0), if_pos e1]
      rw [show lstL b l d m hs bad a = [] from if_neg (by rw [e2]; decide), e2]
      exact ⟨rfl, rfl, rfl, rfl⟩
    · replace h1 : ¬ ((((telL b l d m hs bad a).length : Nat) : Int) = 0) := h1
      refine ⟨rfl, rfl, rfl, rfl, rfl, ⟨by assumption, by show 0 ≤ bad; first | omega | assumption, by show ([]).length ≤ 500; first | omega | assumption | (simp only [List.length_cons, List.length_nil, List.length_append, List.length_take, List.length_drop, List.length_set, List.length_replicate]; omega), by first | assumption | simp⟩, by kernel_rfl, ⟨by show (0 : Int) ≤ 0; omega, by show 0 < ((mk (cntL b l d).toNat (seenC b l d hs bad ([]))).length : Int); omega⟩, by exact mk_row_len (N := (cntL b l d).toNat) (by omega) _, ⟨by show (-9223372036854775808 : Int) ≤ (m - (cntF (fun i => ((mk (cntL b l d).toNat (seenC b l d hs bad ([]))).getD 0 (List.replicate 12 false)).getD i false) 12 : Int)); omega, by show (m - (cntF (fun i => ((mk (cntL b l d).toNat (seenC b l d hs bad ([]))).getD 0 (List.replicate 12 false)).getD i false) 12 : Int)) ≤ (9223372036854775807 : Int); omega⟩, 3, [(2, .k), (3, .k), (10, .o (.arr 12 .bool)), (11, .k), (12, .c []), (47, .o (.int .i64)), (48, .k), (49, .k)], fun nM vs H => (∃ (k : Nat), k = 0 ∧ nM = (telL b l d m hs bad a).length - k ∧ vs = [.sl false (.cons (.int .i64) (.cons (.int .i64) .nil)) a, .ptr 0 1 0 0, .own (.arr 12 .bool) 2, .int .i64 (max 0 (m - (cntF (fun i => ((mk (cntL b l d).toNat (seenC b l d hs bad ([]))).getD 0 (List.replicate 12 false)).getD i false) 12 : Int))), .nils, .own (.int .i64) 1, .int .i64 (((telL b l d m hs bad a).length : Nat) : Int), .int .i64 (k : Int)] ∧ H = [.cells [.int .i64 b, .int .i64 l, .int .i64 d, .int .i64 m, .sl false (.int .i64) hs], .row true (.int .i64) (telL b l d m hs bad a), .row true (.arr 12 .bool) (mk (cntL b l d).toNat (seenC b l d hs bad ([])))]) ∨ (∃ (k : Nat) (bs : List Int), k ≤ (telL b l d m hs bad a).length ∧ bst b l d m hs bad a ((telL b l d m hs bad a).drop k) bs = bst b l d m hs bad a (telL b l d m hs bad a) [] ∧ (bs = [] → lstN b l d m hs bad ≤ 0) ∧ bs.length ≤ 500 ∧ nM = (telL b l d m hs bad a).length - k ∧ vs = [.sl false (.cons (.int .i64) (.cons (.int .i64) .nil)) a, .ptr 0 1 0 0, .own (.arr 12 .bool) 2, .int .i64 (max 0 (m - (cntF (fun i => ((mk (cntL b l d).toNat (seenC b l d hs bad ([]))).getD 0 (List.replicate 12 false)).getD i false) 12 : Int))), .own (.int .i64) 3, .own (.int .i64) 1, .int .i64 (((telL b l d m hs bad a).length : Nat) : Int), .int .i64 (k : Int)] ∧ H = [.cells [.int .i64 b, .int .i64 l, .int .i64 d, .int .i64 m, .sl false (.int .i64) hs], .row true (.int .i64) (telL b l d m hs bad a), .row true (.arr 12 .bool) (mk (cntL b l d).toNat (seenC b l d hs bad ([]))), .row true (.int .i64) bs]), ⟨rfl, (telL b l d m hs bad a).length, .inl ⟨0, rfl, by omega, rfl, rfl⟩⟩, ?_⟩
      rintro nM vs H (⟨k, hc1_0, rfl, rfl, rfl⟩ | ⟨k, bs, hc1_0, hc1_1, hc1_2, hc1_3, rfl, rfl, rfl⟩)
      · have alt := 0
        refine ⟨fun h2 => ?_, fun h2 => ?_⟩
        · replace h2 : (k : Int) < (((telL b l d m hs bad a).length : Nat) : Int) := h2
          have hk : k < (telL b l d m hs bad a).length := by omega
          have hqm := getD_mem 0 (telL b l d m hs bad a) k hk
          obtain ⟨_, tq0, tq1, _⟩ := tel_mem hqm
          have hrl := mk_row_len (N := (cntL b l d).toNat) (F := seenC b l d hs bad []) (q := ((telL b l d m hs bad a).getD k 0).toNat) (by omega) (List.replicate 12 false)
          have hrow : (mk (cntL b l d).toNat (seenC b l d hs bad [])).getD ((telL b l d m hs bad a).getD k 0).toNat (List.replicate 12 false) = rowL b l d hs bad ((telL b l d m hs bad a).getD k 0).toNat := mk_get (by omega) _
          have hb : bst b l d m hs bad a (telL b l d m hs bad a) [] = bst b l d m hs bad a ((telL b l d m hs bad a).drop (k + 1)) (grdL b l d m hs bad a ((telL b l d m hs bad a).getD k 0)) := by
            have e := bst_step (b := b) (l := l) (d := d) (m := m) (hs := hs) (bad := bad) (a := a) (T := (telL b l d m hs bad a)) (bs := []) hk
            rw [if_pos (.inl rfl)] at e
            rw [← e, hc1_0]; rfl
          refine ⟨⟨by show (0 : Int) ≤ (k : Int); omega, by show (k : Int) < ((telL b l d m hs bad a).length : Int); omega⟩, ⟨by show (0 : Int) ≤ ((telL b l d m hs bad a).getD k 0); omega, by show ((telL b l d m hs bad a).getD k 0) < ((mk (cntL b l d).toNat (seenC b l d hs bad ([]))).length : Int); omega⟩, ⟨rfl, rfl, rfl, by first | assumption | rfl | simp, rfl⟩, rfl, rfl, rfl, rfl, rfl, ⟨by show 0 ≤ b; first | omega | assumption, by show b ≤ l; first | omega | assumption, by show l ≤ 1000000; first | omega | assumption, by show 1 ≤ d; first | omega | assumption, by show d ≤ 1000000; first | omega | assumption, by show 0 ≤ ((telL b l d m hs bad a).getD k 0); first | omega | assumption, by show ((telL b l d m hs bad a).getD k 0) < cntL b l d; first | omega | assumption⟩, 4, [(2, .k), (3, .k), (10, .o (.arr 12 .bool)), (11, .k), (12, .k), (15, .k), (16, .k), (17, .k), (18, .o (.int .i64)), (47, .o (.int .i64)), (48, .k), (49, .k), (63, .k), (64, .k), (65, .k)], fun nM vs H => ∃ (i : Nat) (x : List Bool) (ls : List Int), i ≤ a.length ∧ x.length = 12 ∧ ls.length ≤ i ∧ grd b l d hs (lstN b l d m hs bad) ((telL b l d m hs bad a).getD k 0) (a.drop i) i x ls = grdL b l d m hs bad a ((telL b l d m hs bad a).getD k 0) ∧ nM = a.length - i ∧ vs = [.sl false (.cons (.int .i64) (.cons (.int .i64) .nil)) a, .ptr 0 1 0 0, .own (.arr 12 .bool) 2, .int .i64 (max 0 (m - (cntF (fun i => ((mk (cntL b l d).toNat (seenC b l d hs bad ([]))).getD 0 (List.replicate 12 false)).getD i false) 12 : Int))), .nils, .ptr 3 1 0 0, .int .i64 (expF b d ((telL b l d m hs bad a).getD k 0)), .int .i64 (expT b l d ((telL b l d m hs bad a).getD k 0)), .own (.int .i64) 4, .own (.int .i64) 1, .int .i64 (((telL b l d m hs bad a).length : Nat) : Int), .int .i64 (k : Int), .sl false (.cons (.int .i64) (.cons (.int .i64) .nil)) a, .int .i64 (a.length : Int), .int .i64 (i : Int)] ∧ H = [.cells [.int .i64 b, .int .i64 l, .int .i64 d, .int .i64 m, .sl false (.int .i64) hs], .row true (.int .i64) (telL b l d m hs bad a), .row true (.arr 12 .bool) (mk (cntL b l d).toNat (seenC b l d hs bad ([]))), .row true .bool x, .row true (.int .i64) ls], ⟨rfl, a.length, 0, (mk (cntL b l d).toNat (seenC b l d hs bad [])).getD ((telL b l d m hs bad a).getD k 0).toNat (List.replicate 12 false), [], by omega, hrl, by simp, by rw [hrow]; rfl, by omega, rfl, rfl⟩, ?_⟩
          rintro nM vs H ⟨i, x, ls, hc2_0, hc2_1, hc2_2, hc2_3, rfl, rfl, rfl⟩
          refine ⟨fun h3 => ?_, fun h3 => ?_⟩
          · replace h3 : (i : Int) < (a.length : Int) := h3
            have hia : i < a.length := by omega
            have hcb := capB_ok (hca2 _ (getD_mem (0, (0, ())) a i hia))
            rw [drop_one (0, (0, ())) a i hia, grd] at hc2_3
            refine ⟨⟨by show (0 : Int) ≤ (i : Int); omega, by show (i : Int) < (a.length : Int); omega⟩, ⟨rfl, rfl, rfl, Nat.le_of_ble_eq_true rfl⟩, fun h4 => ?_, fun h4 => ?_⟩
            · replace h4 : (ls.length : Int) < (max 0 (m - (cntF (fun i => ((mk (cntL b l d).toNat (seenC b l d hs bad ([]))).getD 0 (List.replicate 12 false)).getD i false) 12 : Int))) := h4
              rw [hneed] at h4
              refine ⟨rfl, rfl, rfl, trivial, fun h5 => ?_, fun h5 => ?_⟩
              · replace h5 : ((expF b d ((telL b l d m hs bad a).getD k 0)) ≤ (((a.getD i (0, (0, ()))).2).1) ∧ (((a.getD i (0, (0, ()))).2).1) ≤ (expT b l d ((telL b l d m hs bad a).getD k 0))) := h5
                refine ⟨rfl, by show hs.length ≤ 2000000; first | omega | assumption, fun h6 => ?_, fun h6 => ?_⟩
                · replace h6 : ((a.getD i (0, (0, ()))).1) ∈ hs := h6
                  refine ⟨⟨by show (0 : Int) ≤ (a.getD i (0, (0, ()))).1; omega, by show (a.getD i (0, (0, ()))).1 < (12 : Int); omega, by first | assumption | rfl | simp⟩, fun h7 => ?_, fun h7 => ?_⟩
                  · replace h7 : ¬ ((x.getD (((a.getD i (0, (0, ()))).1).toNat) false) = true) := h7
                    rw [if_pos ⟨⟨⟨h4, h5⟩, h6⟩, h7⟩] at hc2_3
                    refine ⟨⟨by show (0 : Int) ≤ (a.getD i (0, (0, ()))).1; omega, by show (a.getD i (0, (0, ()))).1 < (12 : Int); omega, by first | assumption | rfl | simp⟩, ⟨rfl, rfl⟩, rfl, ⟨rfl, rfl⟩, by show ls.length + ([(i : Int)] : List Int).length ≤ 1000000000; simp only [List.length_cons, List.length_nil]; omega, ⟨by show (-9223372036854775808 : Int) ≤ ((i : Int) + 1); omega, by show ((i : Int) + 1) ≤ (9223372036854775807 : Int); omega⟩, ?_⟩
                    first
                    | exact ⟨rfl, a.length - (i + 1), by omega, i + 1, _, _, by omega, by rw [List.length_set]; exact hc2_1, by rw [List.length_append]; simp only [List.length_cons, List.length_nil]; omega, by rw [dtrue]; exact hc2_3, rfl, rfl, rfl⟩
                    | exact ⟨rfl, a.length - (i + 1), by omega, i + 1, x, ls, by omega, hc2_1, by omega, hc2_3, rfl, rfl, rfl⟩
                  · replace h7 : ¬ (¬ ((x.getD (((a.getD i (0, (0, ()))).1).toNat) false) = true)) := h7
                    rw [if_neg (fun g => h7 g.2)] at hc2_3
                    refine ⟨⟨by show (-9223372036854775808 : Int) ≤ ((i : Int) + 1); omega, by show ((i : Int) + 1) ≤ (9223372036854775807 : Int); omega⟩, ?_⟩
                    first
                    | exact ⟨rfl, a.length - (i + 1), by omega, i + 1, _, _, by omega, by rw [List.length_set]; exact hc2_1, by rw [List.length_append]; simp only [List.length_cons, List.length_nil]; omega, by rw [dtrue]; exact hc2_3, rfl, rfl, rfl⟩
                    | exact ⟨rfl, a.length - (i + 1), by omega, i + 1, x, ls, by omega, hc2_1, by omega, hc2_3, rfl, rfl, rfl⟩
                · replace h6 : ¬ (((a.getD i (0, (0, ()))).1) ∈ hs) := h6
                  rw [if_neg (fun g => h6 g.1.2)] at hc2_3
                  refine ⟨⟨by show (-9223372036854775808 : Int) ≤ ((i : Int) + 1); omega, by show ((i : Int) + 1) ≤ (9223372036854775807 : Int); omega⟩, ?_⟩
                  first
                  | exact ⟨rfl, a.length - (i + 1), by omega, i + 1, _, _, by omega, by rw [List.length_set]; exact hc2_1, by rw [List.length_append]; simp only [List.length_cons, List.length_nil]; omega, by rw [dtrue]; exact hc2_3, rfl, rfl, rfl⟩
                  | exact ⟨rfl, a.length - (i + 1), by omega, i + 1, x, ls, by omega, hc2_1, by omega, hc2_3, rfl, rfl, rfl⟩
              · replace h5 : ¬ ((expF b d ((telL b l d m hs bad a).getD k 0)) ≤ (((a.getD i (0, (0, ()))).2).1) ∧ (((a.getD i (0, (0, ()))).2).1) ≤ (expT b l d ((telL b l d m hs bad a).getD k 0))) := h5
                rw [if_neg (fun g => h5 g.1.1.2)] at hc2_3
                refine ⟨⟨by show (-9223372036854775808 : Int) ≤ ((i : Int) + 1); omega, by show ((i : Int) + 1) ≤ (9223372036854775807 : Int); omega⟩, ?_⟩
                first
                | exact ⟨rfl, a.length - (i + 1), by omega, i + 1, _, _, by omega, by rw [List.length_set]; exact hc2_1, by rw [List.length_append]; simp only [List.length_cons, List.length_nil]; omega, by rw [dtrue]; exact hc2_3, rfl, rfl, rfl⟩
                | exact ⟨rfl, a.length - (i + 1), by omega, i + 1, x, ls, by omega, hc2_1, by omega, hc2_3, rfl, rfl, rfl⟩
            · replace h4 : ¬ ((ls.length : Int) < (max 0 (m - (cntF (fun i => ((mk (cntL b l d).toNat (seenC b l d hs bad ([]))).getD 0 (List.replicate 12 false)).getD i false) 12 : Int)))) := h4
              rw [hneed] at h4
              rw [if_neg (fun g => h4 g.1.1.1)] at hc2_3
              refine ⟨⟨by show (-9223372036854775808 : Int) ≤ ((i : Int) + 1); omega, by show ((i : Int) + 1) ≤ (9223372036854775807 : Int); omega⟩, ?_⟩
              first
              | exact ⟨rfl, a.length - (i + 1), by omega, i + 1, _, _, by omega, by rw [List.length_set]; exact hc2_1, by rw [List.length_append]; simp only [List.length_cons, List.length_nil]; omega, by rw [dtrue]; exact hc2_3, rfl, rfl, rfl⟩
              | exact ⟨rfl, a.length - (i + 1), by omega, i + 1, x, ls, by omega, hc2_1, by omega, hc2_3, rfl, rfl, rfl⟩
          · replace h3 : ¬ ((i : Int) < (a.length : Int)) := h3
            rw [List.drop_eq_nil_of_le (by omega), grd] at hc2_3
            refine ⟨fun h8 => absurd (show True by trivial) h8, fun h8 => ?_⟩
            refine ⟨⟨by show (-9223372036854775808 : Int) ≤ ((k : Int) + 1); omega, by show ((k : Int) + 1) ≤ (9223372036854775807 : Int); omega⟩, ?_⟩
            exact ⟨rfl, (telL b l d m hs bad a).length - (k + 1), by omega, .inr ⟨k + 1, ls, by omega, by rw [hc2_3, ← hb], fun e => grd_ne hqm (by rw [← hc2_3]; exact e), by omega, rfl, rfl, rfl⟩⟩
        · replace h2 : ¬ ((k : Int) < (((telL b l d m hs bad a).length : Nat) : Int)) := h2
          exfalso; omega
      · have alt := 1
        refine ⟨fun h9 => ?_, fun h9 => ?_⟩
        · replace h9 : (k : Int) < (((telL b l d m hs bad a).length : Nat) : Int) := h9
          have hk : k < (telL b l d m hs bad a).length := by omega
          have hqm := getD_mem 0 (telL b l d m hs bad a) k hk
          obtain ⟨_, tq0, tq1, _⟩ := tel_mem hqm
          have hrl := mk_row_len (N := (cntL b l d).toNat) (F := seenC b l d hs bad []) (q := ((telL b l d m hs bad a).getD k 0).toNat) (by omega) (List.replicate 12 false)
          have hrow : (mk (cntL b l d).toNat (seenC b l d hs bad [])).getD ((telL b l d m hs bad a).getD k 0).toNat (List.replicate 12 false) = rowL b l d hs bad ((telL b l d m hs bad a).getD k 0).toNat := mk_get (by omega) _
          rw [bst_step hk] at hc1_1
          refine ⟨⟨by show (0 : Int) ≤ (k : Int); omega, by show (k : Int) < ((telL b l d m hs bad a).length : Int); omega⟩, ⟨by show (0 : Int) ≤ ((telL b l d m hs bad a).getD k 0); omega, by show ((telL b l d m hs bad a).getD k 0) < ((mk (cntL b l d).toNat (seenC b l d hs bad ([]))).length : Int); omega⟩, ⟨rfl, rfl, rfl, by first | assumption | rfl | simp, rfl⟩, rfl, rfl, rfl, rfl, rfl, ⟨by show 0 ≤ b; first | omega | assumption, by show b ≤ l; first | omega | assumption, by show l ≤ 1000000; first | omega | assumption, by show 1 ≤ d; first | omega | assumption, by show d ≤ 1000000; first | omega | assumption, by show 0 ≤ ((telL b l d m hs bad a).getD k 0); first | omega | assumption, by show ((telL b l d m hs bad a).getD k 0) < cntL b l d; first | omega | assumption⟩, 5, [(2, .k), (3, .k), (10, .o (.arr 12 .bool)), (11, .k), (12, .o (.int .i64)), (15, .k), (16, .k), (17, .k), (18, .o (.int .i64)), (47, .o (.int .i64)), (48, .k), (49, .k), (63, .k), (64, .k), (65, .k)], fun nM vs H => ∃ (i : Nat) (x : List Bool) (ls : List Int), i ≤ a.length ∧ x.length = 12 ∧ ls.length ≤ i ∧ grd b l d hs (lstN b l d m hs bad) ((telL b l d m hs bad a).getD k 0) (a.drop i) i x ls = grdL b l d m hs bad a ((telL b l d m hs bad a).getD k 0) ∧ nM = a.length - i ∧ vs = [.sl false (.cons (.int .i64) (.cons (.int .i64) .nil)) a, .ptr 0 1 0 0, .own (.arr 12 .bool) 2, .int .i64 (max 0 (m - (cntF (fun i => ((mk (cntL b l d).toNat (seenC b l d hs bad ([]))).getD 0 (List.replicate 12 false)).getD i false) 12 : Int))), .own (.int .i64) 3, .ptr 4 1 0 0, .int .i64 (expF b d ((telL b l d m hs bad a).getD k 0)), .int .i64 (expT b l d ((telL b l d m hs bad a).getD k 0)), .own (.int .i64) 5, .own (.int .i64) 1, .int .i64 (((telL b l d m hs bad a).length : Nat) : Int), .int .i64 (k : Int), .sl false (.cons (.int .i64) (.cons (.int .i64) .nil)) a, .int .i64 (a.length : Int), .int .i64 (i : Int)] ∧ H = [.cells [.int .i64 b, .int .i64 l, .int .i64 d, .int .i64 m, .sl false (.int .i64) hs], .row true (.int .i64) (telL b l d m hs bad a), .row true (.arr 12 .bool) (mk (cntL b l d).toNat (seenC b l d hs bad ([]))), .row true (.int .i64) bs, .row true .bool x, .row true (.int .i64) ls], ⟨rfl, a.length, 0, (mk (cntL b l d).toNat (seenC b l d hs bad [])).getD ((telL b l d m hs bad a).getD k 0).toNat (List.replicate 12 false), [], by omega, hrl, by simp, by rw [hrow]; rfl, by omega, rfl, rfl⟩, ?_⟩
          rintro nM vs H ⟨i, x, ls, hc3_0, hc3_1, hc3_2, hc3_3, rfl, rfl, rfl⟩
          refine ⟨fun h10 => ?_, fun h10 => ?_⟩
          · replace h10 : (i : Int) < (a.length : Int) := h10
            have hia : i < a.length := by omega
            have hcb := capB_ok (hca2 _ (getD_mem (0, (0, ())) a i hia))
            rw [drop_one (0, (0, ())) a i hia, grd] at hc3_3
            refine ⟨⟨by show (0 : Int) ≤ (i : Int); omega, by show (i : Int) < (a.length : Int); omega⟩, ⟨rfl, rfl, rfl, Nat.le_of_ble_eq_true rfl⟩, fun h11 => ?_, fun h11 => ?_⟩
            · replace h11 : (ls.length : Int) < (max 0 (m - (cntF (fun i => ((mk (cntL b l d).toNat (seenC b l d hs bad ([]))).getD 0 (List.replicate 12 false)).getD i false) 12 : Int))) := h11
              rw [hneed] at h11
              refine ⟨rfl, rfl, rfl, trivial, fun h12 => ?_, fun h12 => ?_⟩
              · replace h12 : ((expF b d ((telL b l d m hs bad a).getD k 0)) ≤ (((a.getD i (0, (0, ()))).2).1) ∧ (((a.getD i (0, (0, ()))).2).1) ≤ (expT b l d ((telL b l d m hs bad a).getD k 0))) := h12
                refine ⟨rfl, by show hs.length ≤ 2000000; first | omega | assumption, fun h13 => ?_, fun h13 => ?_⟩
                · replace h13 : ((a.getD i (0, (0, ()))).1) ∈ hs := h13
                  refine ⟨⟨by show (0 : Int) ≤ (a.getD i (0, (0, ()))).1; omega, by show (a.getD i (0, (0, ()))).1 < (12 : Int); omega, by first | assumption | rfl | simp⟩, fun h14 => ?_, fun h14 => ?_⟩
                  · replace h14 : ¬ ((x.getD (((a.getD i (0, (0, ()))).1).toNat) false) = true) := h14
                    rw [if_pos ⟨⟨⟨h11, h12⟩, h13⟩, h14⟩] at hc3_3
                    refine ⟨⟨by show (0 : Int) ≤ (a.getD i (0, (0, ()))).1; omega, by show (a.getD i (0, (0, ()))).1 < (12 : Int); omega, by first | assumption | rfl | simp⟩, ⟨rfl, rfl⟩, rfl, ⟨rfl, rfl⟩, by show ls.length + ([(i : Int)] : List Int).length ≤ 1000000000; simp only [List.length_cons, List.length_nil]; omega, ⟨by show (-9223372036854775808 : Int) ≤ ((i : Int) + 1); omega, by show ((i : Int) + 1) ≤ (9223372036854775807 : Int); omega⟩, ?_⟩
                    first
                    | exact ⟨rfl, a.length - (i + 1), by omega, i + 1, _, _, by omega, by rw [List.length_set]; exact hc3_1, by rw [List.length_append]; simp only [List.length_cons, List.length_nil]; omega, by rw [dtrue]; exact hc3_3, rfl, rfl, rfl⟩
                    | exact ⟨rfl, a.length - (i + 1), by omega, i + 1, x, ls, by omega, hc3_1, by omega, hc3_3, rfl, rfl, rfl⟩
                  · replace h14 : ¬ (¬ ((x.getD (((a.getD i (0, (0, ()))).1).toNat) false) = true)) := h14
                    rw [if_neg (fun g => h14 g.2)] at hc3_3
                    refine ⟨⟨by show (-9223372036854775808 : Int) ≤ ((i : Int) + 1); omega, by show ((i : Int) + 1) ≤ (9223372036854775807 : Int); omega⟩, ?_⟩
                    first
                    | exact ⟨rfl, a.length - (i + 1), by omega, i + 1, _, _, by omega, by rw [List.length_set]; exact hc3_1, by rw [List.length_append]; simp only [List.length_cons, List.length_nil]; omega, by rw [dtrue]; exact hc3_3, rfl, rfl, rfl⟩
                    | exact ⟨rfl, a.length - (i + 1), by omega, i + 1, x, ls, by omega, hc3_1, by omega, hc3_3, rfl, rfl, rfl⟩
                · replace h13 : ¬ (((a.getD i (0, (0, ()))).1) ∈ hs) := h13
                  rw [if_neg (fun g => h13 g.1.2)] at hc3_3
                  refine ⟨⟨by show (-9223372036854775808 : Int) ≤ ((i : Int) + 1); omega, by show ((i : Int) + 1) ≤ (9223372036854775807 : Int); omega⟩, ?_⟩
                  first
                  | exact ⟨rfl, a.length - (i + 1), by omega, i + 1, _, _, by omega, by rw [List.length_set]; exact hc3_1, by rw [List.length_append]; simp only [List.length_cons, List.length_nil]; omega, by rw [dtrue]; exact hc3_3, rfl, rfl, rfl⟩
                  | exact ⟨rfl, a.length - (i + 1), by omega, i + 1, x, ls, by omega, hc3_1, by omega, hc3_3, rfl, rfl, rfl⟩
              · replace h12 : ¬ ((expF b d ((telL b l d m hs bad a).getD k 0)) ≤ (((a.getD i (0, (0, ()))).2).1) ∧ (((a.getD i (0, (0, ()))).2).1) ≤ (expT b l d ((telL b l d m hs bad a).getD k 0))) := h12
                rw [if_neg (fun g => h12 g.1.1.2)] at hc3_3
                refine ⟨⟨by show (-9223372036854775808 : Int) ≤ ((i : Int) + 1); omega, by show ((i : Int) + 1) ≤ (9223372036854775807 : Int); omega⟩, ?_⟩
                first
                | exact ⟨rfl, a.length - (i + 1), by omega, i + 1, _, _, by omega, by rw [List.length_set]; exact hc3_1, by rw [List.length_append]; simp only [List.length_cons, List.length_nil]; omega, by rw [dtrue]; exact hc3_3, rfl, rfl, rfl⟩
                | exact ⟨rfl, a.length - (i + 1), by omega, i + 1, x, ls, by omega, hc3_1, by omega, hc3_3, rfl, rfl, rfl⟩
            · replace h11 : ¬ ((ls.length : Int) < (max 0 (m - (cntF (fun i => ((mk (cntL b l d).toNat (seenC b l d hs bad ([]))).getD 0 (List.replicate 12 false)).getD i false) 12 : Int)))) := h11
              rw [hneed] at h11
              rw [if_neg (fun g => h11 g.1.1.1)] at hc3_3
              refine ⟨⟨by show (-9223372036854775808 : Int) ≤ ((i : Int) + 1); omega, by show ((i : Int) + 1) ≤ (9223372036854775807 : Int); omega⟩, ?_⟩
              first
              | exact ⟨rfl, a.length - (i + 1), by omega, i + 1, _, _, by omega, by rw [List.length_set]; exact hc3_1, by rw [List.length_append]; simp only [List.length_cons, List.length_nil]; omega, by rw [dtrue]; exact hc3_3, rfl, rfl, rfl⟩
              | exact ⟨rfl, a.length - (i + 1), by omega, i + 1, x, ls, by omega, hc3_1, by omega, hc3_3, rfl, rfl, rfl⟩
          · replace h10 : ¬ ((i : Int) < (a.length : Int)) := h10
            rw [List.drop_eq_nil_of_le (by omega), grd] at hc3_3
            refine fun p15 hq15 => ?_
            refine ⟨fun h16 => ?_, fun h16 => ?_⟩
            · replace h16 : ¬ p15 := h16
              refine ⟨⟨by show ls.length ≤ 2000000; first | omega | assumption, by show bs.length ≤ 2000000; first | omega | assumption⟩, fun h17 => ?_, fun h17 => ?_⟩
              · replace h17 : (cmpS ls bs) < 0 := h17
                rw [hc3_3] at h17
                rw [if_pos (.inr h17)] at hc1_1
                refine ⟨⟨by show (-9223372036854775808 : Int) ≤ ((k : Int) + 1); omega, by show ((k : Int) + 1) ≤ (9223372036854775807 : Int); omega⟩, ?_⟩
                first
                | exact ⟨rfl, (telL b l d m hs bad a).length - (k + 1), by omega, .inr ⟨k + 1, ls, by omega, by rw [hc3_3]; exact hc1_1, fun e => grd_ne hqm (by rw [← hc3_3]; exact e), by omega, rfl, rfl, rfl⟩⟩
                | exact ⟨rfl, (telL b l d m hs bad a).length - (k + 1), by omega, .inr ⟨k + 1, bs, by omega, hc1_1, hc1_2, by omega, rfl, rfl, rfl⟩⟩
              · replace h17 : ¬ ((cmpS ls bs) < 0) := h17
                rw [hc3_3] at h17
                rw [bst_keep h17 (fun e => grd_zero (hc1_2 e) _ _ _ _)] at hc1_1
                refine ⟨⟨by show (-9223372036854775808 : Int) ≤ ((k : Int) + 1); omega, by show ((k : Int) + 1) ≤ (9223372036854775807 : Int); omega⟩, ?_⟩
                first
                | exact ⟨rfl, (telL b l d m hs bad a).length - (k + 1), by omega, .inr ⟨k + 1, ls, by omega, by rw [hc3_3]; exact hc1_1, fun e => grd_ne hqm (by rw [← hc3_3]; exact e), by omega, rfl, rfl, rfl⟩⟩
                | exact ⟨rfl, (telL b l d m hs bad a).length - (k + 1), by omega, .inr ⟨k + 1, bs, by omega, hc1_1, hc1_2, by omega, rfl, rfl, rfl⟩⟩
            · replace h16 : p15 := h16
              rw [if_pos (.inl (hq15 h16))] at hc1_1
              refine ⟨⟨by show (-9223372036854775808 : Int) ≤ ((k : Int) + 1); omega, by show ((k : Int) + 1) ≤ (9223372036854775807 : Int); omega⟩, ?_⟩
              first
              | exact ⟨rfl, (telL b l d m hs bad a).length - (k + 1), by omega, .inr ⟨k + 1, ls, by omega, by rw [hc3_3]; exact hc1_1, fun e => grd_ne hqm (by rw [← hc3_3]; exact e), by omega, rfl, rfl, rfl⟩⟩
              | exact ⟨rfl, (telL b l d m hs bad a).length - (k + 1), by omega, .inr ⟨k + 1, bs, by omega, hc1_1, hc1_2, by omega, rfl, rfl, rfl⟩⟩
        · replace h9 : ¬ ((k : Int) < (((telL b l d m hs bad a).length : Nat) : Int)) := h9
          have e1 : ¬ (telL b l d m hs bad a) = [] := fun e => h1 (by rw [e]; rfl)
          have e2 : lstE b l d m hs bad a = 0 := by unfold lstE; rw [if_pos (Classical.not_not.1 h0), if_neg e1]
          rw [List.drop_eq_nil_of_le (by omega), bst] at hc1_1
          rw [show lstL b l d m hs bad a = bs by unfold lstL; rw [if_pos e2]; exact hc1_1.symm, e2]
          exact ⟨rfl, rfl, rfl, rfl⟩
def CLst : List (Nat × Con) := (35, pureC [.v (.cons (.int .i64) (.cons (.int .i64) (.cons (.int .i64) (.cons (.int .i64) (.cons (.sl (.int .i64)) .nil))))), .v (.int .i64), .v (.sl (.cons (.int .i64) (.cons (.int .i64) .nil)))] sLst) :: CLok
theorem kLst : Known Try.prog (En CLst tys [] QAt) := kLok.add Try.func35 Try.call35 [.o (.int .i64), .k] fun ds p v bs h hp => by
  unfold sLst at h
  split at h <;> simp only [Option.some.injEq, Prod.mk.injEq, reduceCtorEq] at h
  obtain ⟨rfl, rfl, rfl⟩ := h
  exact bLst _ _ _ _ _ _ _ hp.1 hp.2
end Go.Proofs.Ytgljcfnplkcfhaa.S29

namespace Go.Proofs.Ytgljcfnplkcfhaa.S29
open Go

theorem div2 (x : Int) (i : Nat) : x / 2 ^ i / 2 = x / 2 ^ (i + 1) := by
  rw [Int.ediv_ediv_of_nonneg (Int.pow_nonneg (by omega)), Int.pow_succ]
def ticF (b l d m : Int) (hs : List Int) (q : Int) : Int := if askL b l d m hs q = 0 then spanF b d q else 0
/-- Whether some of what it returns came in. -/
def extR (b l d m : Int) (hs : List Int) (x : Int) : Bool := !decide (extE b l d m hs x = 0)
def fewP (b l d m : Int) (hs : List Int) (n : Int) : Prop := hs.length ≤ 30 ∧ (chkL b l d m hs = 0 → cntL b l d ≤ n)
theorem list_eq {α : Type} (d : α) {a b : List α} (hl : a.length = b.length) (h : ∀ i, i < a.length → a.getD i d = b.getD i d) : a = b := by
  apply List.ext_getElem hl
  intro i h1 h2
  have := h i h1
  simpa [List.getD_eq_getElem?_getD, h1, h2] using this
theorem per_span {b l d m : Int} {hs : List Int} (hc : Cal b l d m hs) {t q : Int} (h0 : 0 ≤ q) (h1 : q < cntL b l d) (h2 : spanF b d q ≤ t) (h3 : t ≤ spanT b l d q) : perL b l d m hs t = q := by
  obtain ⟨z1, z2, z3⟩ := hc.qn h0 h1
  have n1 := hc.n1
  unfold spanF spanT at *
  unfold perL
  rw [if_pos ⟨hc.chk, by omega, by omega⟩]
  apply Int.le_antisymm
  · have : (t - b) / d < q + 1 := Int.ediv_lt_of_lt_mul (by omega) (by rw [Int.add_mul, Int.one_mul]; omega)
    omega
  · exact Int.le_ediv_of_mul_le (by omega) (by omega)
theorem per_in {b l d m : Int} {hs : List Int} (hc : Cal b l d m hs) {t : Int} (h : b ≤ t ∧ t ≤ l) : 0 ≤ perL b l d m hs t ∧ perL b l d m hs t < cntL b l d ∧ spanF b d (perL b l d m hs t) ≤ t ∧ t ≤ spanT b l d (perL b l d m hs t) := by
  have n1 := hc.n1
  have e : perL b l d m hs t = (t - b) / d := if_pos ⟨hc.chk, h⟩
  have h1 := (per_ok hc t).2
  rw [e] at h1 ⊢
  have h2 := Int.ediv_nonneg (by omega : 0 ≤ t - b) (by omega : 0 ≤ d)
  have h3 := Int.ediv_mul_le (t - b) (b := d) (by omega)
  have h4 := Int.lt_ediv_add_one_mul_self (t - b) (b := d) (by omega)
  rw [Int.add_mul, Int.one_mul] at h4
  unfold spanF spanT
  omega
theorem per_no {b l d m : Int} {hs : List Int} {t : Int} (h : ¬ (b ≤ t ∧ t ≤ l)) : perL b l d m hs t = -1 := if_neg fun g => h g.2
theorem per_none {b l d m : Int} {hs : List Int} (hc : Cal b l d m hs) {t : Int} {k : Nat} (hk : cntL b l d ≤ k) (h : ∀ x : Nat, x < k → ¬ (spanF b d x ≤ t ∧ t ≤ spanT b l d x)) : perL b l d m hs t = -1 := by
  apply per_no
  intro g
  obtain ⟨h1, h2, h3, h4⟩ := per_in hc g
  have e : (((perL b l d m hs t).toNat : Nat) : Int) = perL b l d m hs t := by omega
  exact h (perL b l d m hs t).toNat (by omega) (by rw [e]; exact ⟨h3, h4⟩)
theorem not_take {x : Int} {s : List Int} {k : Nat} (hk : k < s.length) (h : ¬ x ∈ s.take k) (h2 : ¬ s.getD k 0 = x) : ¬ x ∈ s.take (k + 1) := by
  rw [take_snoc 0 s k hk, List.mem_append]
  rintro (g | g)
  · exact h g
  · exact h2 (List.mem_singleton.1 g).symm
theorem extH_len (b l d m : Int) (hs : List Int) (x : Int) : (extH b l d m hs x).length ≤ hs.length := by
  unfold extH
  split
  · exact Nat.le_refl _
  · exact Nat.zero_le _
end Go.Proofs.Ytgljcfnplkcfhaa.S29

namespace Go.Proofs.Ytgljcfnplkcfhaa.S29
open Go Go.Proofs.Ytgljcfnplkcfhaa.Vc Go.Proofs
set_option maxRecDepth 100000
set_option linter.unusedVariables false

def sRIn : List V → Option (Prop × V × List Blk)
  | [.int .i64 x, .int .i64 k] => some (0 ≤ x ∧ 0 ≤ k ∧ k ≤ 64, .b (bitB x k.toNat = true), [])
  | _ => none
set_option maxHeartbeats 1000000 in
theorem bRIn (x : Int) (k : Int) (hp0 : 0 ≤ x) (hp1 : 0 ≤ k) (hp2 : k ≤ 64) : bodyP (En CLst tys [] QAt) Try.f133 [.k] [.int .i64 x, .int .i64 k] (.b (bitB x k.toNat = true)) [] := by
  refine ⟨0, [(0, .k), (1, .k), (5, .k)], fun nM vs H => ∃ (i : Nat), (i : Int) ≤ k ∧ 0 ≤ x / 2 ^ i ∧ nM = k.toNat - i ∧ vs = [.int .i64 (x / 2 ^ i), .int .i64 k, .int .i64 (i : Int)] ∧ H = [], ⟨rfl, k.toNat, 0, by omega, by simpa using hp0, by omega, by rw [show x / 2 ^ 0 = x by simp]; rfl, rfl⟩, ?_⟩
  rintro nM vs H ⟨i, hc1_0, hc1_1, rfl, rfl, rfl⟩
  refine ⟨fun h0 => ?_, fun h0 => ?_⟩
  · replace h0 : (i : Int) < k := h0
    refine .inl ⟨⟨by show (0 : Int) ≤ (x / 2 ^ i); omega, by show (0 : Int) < 2; omega⟩, ?_⟩
    refine ⟨⟨by show (-9223372036854775808 : Int) ≤ ((i : Int) + 1); omega, by show ((i : Int) + 1) ≤ (9223372036854775807 : Int); omega⟩, ?_⟩
    exact ⟨rfl, k.toNat - (i + 1), by omega, i + 1, by omega, sh_nonneg hp0 _, by omega, by rw [← div2]; rfl, rfl⟩
  · replace h0 : ¬ ((i : Int) < k) := h0
    refine .inl ⟨⟨by show (0 : Int) ≤ (x / 2 ^ i); omega, by show (0 : Int) < 2; omega⟩, ?_⟩
    have hi : i = k.toNat := by omega
    subst hi
    exact ⟨rfl, rfl, congrArg V.b (propext ⟨fun h => decide_eq_true h, fun h => of_decide_eq_true h⟩), rfl⟩
def CRIn : List (Nat × Con) := (133, pureC [.v (.int .i64), .v (.int .i64)] sRIn) :: CLst
theorem kRIn : Known Try.prog (En CRIn tys [] QAt) := kLst.add Try.func133 Try.call133 [.k] fun ds p v bs h hp => by
  unfold sRIn at h
  split at h <;> simp only [Option.some.injEq, Prod.mk.injEq, reduceCtorEq] at h
  obtain ⟨rfl, rfl, rfl⟩ := h
  exact bRIn _ _ hp.1 hp.2.1 hp.2.2
def sRIn2 : List V → Option (Prop × V × List Blk)
  | [.int .i64 x, .int .i64 k] => some (0 ≤ x ∧ 0 ≤ k ∧ k ≤ 64, .b (bitB x k.toNat = true), [])
  | _ => none
set_option maxHeartbeats 1000000 in
theorem bRIn2 (x : Int) (k : Int) (hp0 : 0 ≤ x) (hp1 : 0 ≤ k) (hp2 : k ≤ 64) : bodyP (En CRIn tys [] QAt) Try.f122 [.k] [.int .i64 x, .int .i64 k] (.b (bitB x k.toNat = true)) [] := by
  refine ⟨rfl, rfl, ⟨by show 0 ≤ x; first | omega | assumption, by show 0 ≤ k; first | omega | assumption, by show k ≤ 64; first | omega | assumption⟩, ?_⟩
  exact ⟨rfl, rfl, rfl, rfl⟩
def CRIn2 : List (Nat × Con) := (122, pureC [.v (.int .i64), .v (.int .i64)] sRIn2) :: CRIn
theorem kRIn2 : Known Try.prog (En CRIn2 tys [] QAt) := kRIn.add Try.func122 Try.call122 [.k] fun ds p v bs h hp => by
  unfold sRIn2 at h
  split at h <;> simp only [Option.some.injEq, Prod.mk.injEq, reduceCtorEq] at h
  obtain ⟨rfl, rfl, rfl⟩ := h
  exact bRIn2 _ _ hp.1 hp.2.1 hp.2.2
def sRCnt : List V → Option (Prop × V × List Blk)
  | [.agg [.int .i64 b, .int .i64 l, .int .i64 d, .int .i64 m, .sl false (.int .i64) hs]] => some (0 ≤ b ∧ b ≤ l ∧ l ≤ 1000000 ∧ 1 ≤ d, .int .i64 (cntL b l d), [])
  | _ => none
set_option maxHeartbeats 1000000 in
theorem bRCnt (b : Int) (l : Int) (d : Int) (m : Int) (hs : List Int) (hp0 : 0 ≤ b) (hp1 : b ≤ l) (hp2 : l ≤ 1000000) (hp3 : 1 ≤ d) : bodyP (En CRIn2 tys [] QAt) Try.f26 [.k] [.agg [.int .i64 b, .int .i64 l, .int .i64 d, .int .i64 m, .sl false (.int .i64) hs]] (.int .i64 (cntL b l d)) [] := by
  have hd := Int.ediv_nonneg (a := l - b) (b := d) (by omega) (by omega)
  have hd2 := Int.ediv_le_self (a := l - b) d (by omega)
  refine ⟨⟨by show (-9223372036854775808 : Int) ≤ (l - b); omega, by show (l - b) ≤ (9223372036854775807 : Int); omega⟩, .inl ⟨⟨by show (0 : Int) ≤ (l - b); omega, by show (0 : Int) < d; omega⟩, ?_⟩⟩
  refine ⟨⟨by show (-9223372036854775808 : Int) ≤ (((l - b) / d) + 1); omega, by show (((l - b) / d) + 1) ≤ (9223372036854775807 : Int); omega⟩, ?_⟩
  exact ⟨rfl, rfl, rfl, rfl⟩
def CRCnt : List (Nat × Con) := (26, pureC [.v (.cons (.int .i64) (.cons (.int .i64) (.cons (.int .i64) (.cons (.int .i64) (.cons (.sl (.int .i64)) .nil)))))] sRCnt) :: CRIn2
theorem kRCnt : Known Try.prog (En CRCnt tys [] QAt) := kRIn2.add Try.func26 Try.call26 [.k] fun ds p v bs h hp => by
  unfold sRCnt at h
  split at h <;> simp only [Option.some.injEq, Prod.mk.injEq, reduceCtorEq] at h
  obtain ⟨rfl, rfl, rfl⟩ := h
  exact bRCnt _ _ _ _ _ hp.1 hp.2.1 hp.2.2.1 hp.2.2.2
def sRChk : List V → Option (Prop × V × List Blk)
  | [.agg [.int .i64 b, .int .i64 l, .int .i64 d, .int .i64 m, .sl false (.int .i64) hs]] => some (hs.length ≤ 2000000, .int .i64 (chkL b l d m hs), [])
  | _ => none
set_option maxHeartbeats 1000000 in
theorem bRChk (b : Int) (l : Int) (d : Int) (m : Int) (hs : List Int) (hp0 : hs.length ≤ 2000000) : bodyP (En CRCnt tys [] QAt) Try.f25 [.k] [.agg [.int .i64 b, .int .i64 l, .int .i64 d, .int .i64 m, .sl false (.int .i64) hs]] (.int .i64 (chkL b l d m hs)) [] := by
  refine ⟨fun h0 => ?_, fun h0 => ?_⟩
  · replace h0 : ¬ (b < 0) := h0
    refine ⟨fun h1 => ?_, fun h1 => ?_⟩
    · replace h1 : ¬ (1000000 < b) := h1
      refine ⟨fun h2 => ?_, fun h2 => ?_⟩
      · replace h2 : ¬ (l < b) := h2
        refine ⟨fun h3 => ?_, fun h3 => ?_⟩
        · replace h3 : ¬ (1000000 < l) := h3
          refine ⟨fun h4 => ?_, fun h4 => ?_⟩
          · replace h4 : ¬ (d < 1) := h4
            refine ⟨fun h5 => ?_, fun h5 => ?_⟩
            · replace h5 : 1000000 < d := h5
              refine ⟨rfl, rfl, ?_, rfl⟩
              unfold chkL
              repeat' split
              all_goals first | rfl | omega | (exfalso; simp_all; done)
            · replace h5 : ¬ (1000000 < d) := h5
              refine ⟨rfl, rfl, rfl, rfl, ⟨by show 0 ≤ b; first | omega | assumption, by show b ≤ l; first | omega | assumption, by show l ≤ 1000000; first | omega | assumption, by show 1 ≤ d; first | omega | assumption⟩, fun h6 => ?_, fun h6 => ?_⟩
              · replace h6 : 500 < (cntL b l d) := h6
                refine ⟨rfl, rfl, ?_, rfl⟩
                unfold chkL
                repeat' split
                all_goals first | rfl | omega | (exfalso; simp_all; done)
              · replace h6 : ¬ (500 < (cntL b l d)) := h6
                refine ⟨1, [(1, .k), (4, .k)], fun nM vs H => ∃ (k : Nat), k ≤ hs.length ∧ hsF (prv hs k) (hs.drop k) = hsF (-1) hs ∧ nM = hs.length - k ∧ vs = [.ptr 0 1 0 0, .int .i64 (k : Int)] ∧ H = [.cells [.int .i64 b, .int .i64 l, .int .i64 d, .int .i64 m, .sl false (.int .i64) hs]], ⟨rfl, hs.length, 0, by omega, rfl, by omega, rfl, rfl⟩, ?_⟩
                rintro nM vs H ⟨k, hc1_0, hc1_1, rfl, rfl, rfl⟩
                refine ⟨fun h7 => ?_, fun h7 => ?_⟩
                · replace h7 : (k : Int) < (hs.length : Int) := h7
                  have hkl : k < hs.length := by omega
                  have hk1 : ((k : Int) - 1).toNat = k - 1 := by omega
                  refine ⟨by kernel_rfl, ⟨by show (0 : Int) ≤ (k : Int); omega, by show (k : Int) < (hs.length : Int); omega⟩, fun h8 => ?_, fun h8 => ?_⟩
                  · replace h8 : ¬ ((hs.getD k 0) < 0) := h8
                    refine ⟨fun h9 => ?_, fun h9 => absurd h9 (show ¬ ((hs.getD k 0) < 0) by first | omega | assumption | simp_all)⟩
                    refine ⟨fun h10 => ?_, fun h10 => absurd h10 (show ¬ ((hs.getD k 0) < 0) by first | omega | assumption | simp_all)⟩
                    refine ⟨fun h11 => ?_, fun h11 => absurd h11 (show ¬ ((hs.getD k 0) < 0) by first | omega | assumption | simp_all)⟩
                    refine ⟨⟨by show (0 : Int) ≤ (k : Int); omega, by show (k : Int) < (hs.length : Int); omega⟩, fun h12 => ?_, fun h12 => absurd h12 (show ¬ ((hs.getD k 0) < 0) by first | omega | assumption | simp_all)⟩
                    refine ⟨fun h13 => ?_, fun h13 => absurd h13 (show ¬ ((hs.getD k 0) < 0) by first | omega | assumption | simp_all)⟩
                    refine ⟨fun h14 => absurd h14 (show ¬ ((hs.getD k 0) < 0) by first | omega | assumption | simp_all), fun h14 => ?_⟩
                    refine ⟨fun h15 => ?_, fun h15 => ?_⟩
                    · replace h15 : ¬ (11 < (hs.getD k 0)) := h15
                      refine ⟨fun h16 => ?_, fun h16 => absurd h16 (show ¬ (11 < (hs.getD k 0)) by first | omega | assumption | simp_all)⟩
                      refine ⟨fun h17 => ?_, fun h17 => absurd h17 (show ¬ (11 < (hs.getD k 0)) by first | omega | assumption | simp_all)⟩
                      refine ⟨fun h18 => ?_, fun h18 => ?_⟩
                      · replace h18 : 0 < (k : Int) := h18
                        refine ⟨fun h19 => ?_, fun h19 => absurd (show 0 < (k : Int) by first | omega | assumption | simp_all) h19⟩
                        refine ⟨fun h20 => ?_, fun h20 => absurd (show 0 < (k : Int) by first | omega | assumption | simp_all) h20⟩
                        refine ⟨fun h21 => ?_, fun h21 => absurd (show 0 < (k : Int) by first | omega | assumption | simp_all) h21⟩
                        refine ⟨⟨by show (0 : Int) ≤ (k : Int); omega, by show (k : Int) < (hs.length : Int); omega⟩, fun h22 => ?_, fun h22 => absurd (show 0 < (k : Int) by first | omega | assumption | simp_all) h22⟩
                        refine ⟨fun h23 => ?_, fun h23 => absurd (show 0 < (k : Int) by first | omega | assumption | simp_all) h23⟩
                        refine ⟨fun h24 => ?_, fun h24 => absurd (show 0 < (k : Int) by first | omega | assumption | simp_all) h24⟩
                        refine ⟨fun h25 => ?_, fun h25 => absurd (show 0 < (k : Int) by first | omega | assumption | simp_all) h25⟩
                        refine ⟨fun h26 => ?_, fun h26 => absurd (show 0 < (k : Int) by first | omega | assumption | simp_all) h26⟩
                        refine ⟨⟨by show (-9223372036854775808 : Int) ≤ ((k : Int) - 1); omega, by show ((k : Int) - 1) ≤ (9223372036854775807 : Int); omega⟩, fun h27 => ?_, fun h27 => absurd (show 0 < (k : Int) by first | omega | assumption | simp_all) h27⟩
                        refine ⟨⟨by show (0 : Int) ≤ ((k : Int) - 1); omega, by show ((k : Int) - 1) < (hs.length : Int); omega⟩, fun h28 => ?_, fun h28 => absurd (show 0 < (k : Int) by first | omega | assumption | simp_all) h28⟩
                        refine ⟨fun h29 => ?_, fun h29 => absurd (show 0 < (k : Int) by first | omega | assumption | simp_all) h29⟩
                        refine ⟨fun h30 => ?_, fun h30 => absurd h30 (show ¬ (11 < (hs.getD k 0)) by first | omega | assumption | simp_all)⟩
                        refine ⟨fun h31 => ?_, fun h31 => absurd (show 0 < (k : Int) by first | omega | assumption | simp_all) h31⟩
                        refine ⟨fun h32 => absurd h32 (show ¬ (11 < (hs.getD k 0)) by first | omega | assumption | simp_all), fun h32 => ?_⟩
                        refine ⟨fun h33 => ?_, fun h33 => ?_⟩
                        · replace h33 : (hs.getD k 0) ≤ (hs.getD (((k : Int) - 1).toNat) 0) := h33
                          rw [hk1] at h33
                          have e := hs_bad hkl hc1_1 (by rw [prv_pos hs (by omega)]; omega)
                          refine ⟨rfl, rfl, ?_, rfl⟩
                          unfold chkL
                          repeat' split
                          all_goals first | rfl | omega | (exfalso; simp_all; done)
                        · replace h33 : ¬ ((hs.getD k 0) ≤ (hs.getD (((k : Int) - 1).toNat) 0)) := h33
                          rw [hk1] at h33
                          refine ⟨⟨by show (-9223372036854775808 : Int) ≤ ((k : Int) + 1); omega, by show ((k : Int) + 1) ≤ (9223372036854775807 : Int); omega⟩, ?_⟩
                          exact ⟨rfl, hs.length - (k + 1), by omega, k + 1, by omega, hs_next hkl hc1_1 (by first | (rw [prv_pos hs (by omega)]; omega) | (rw [prv_zero hs (by omega)]; omega)), rfl, rfl, rfl⟩
                      · replace h18 : ¬ (0 < (k : Int)) := h18
                        refine ⟨fun h34 => absurd h34 (show ¬ (0 < (k : Int)) by first | omega | assumption | simp_all), fun h34 => ?_⟩
                        refine ⟨fun h35 => absurd h35 (show ¬ (0 < (k : Int)) by first | omega | assumption | simp_all), fun h35 => ?_⟩
                        refine ⟨fun h36 => absurd h36 (show ¬ (0 < (k : Int)) by first | omega | assumption | simp_all), fun h36 => ?_⟩
                        refine ⟨fun h37 => absurd h37 (show ¬ (0 < (k : Int)) by first | omega | assumption | simp_all), fun h37 => ?_⟩
                        refine ⟨fun h38 => absurd h38 (show ¬ (0 < (k : Int)) by first | omega | assumption | simp_all), fun h38 => ?_⟩
                        refine ⟨fun h39 => absurd h39 (show ¬ (0 < (k : Int)) by first | omega | assumption | simp_all), fun h39 => ?_⟩
                        refine ⟨fun h40 => absurd h40 (show ¬ (0 < (k : Int)) by first | omega | assumption | simp_all), fun h40 => ?_⟩
                        refine ⟨fun h41 => absurd h41 (show ¬ (0 < (k : Int)) by first | omega | assumption | simp_all), fun h41 => ?_⟩
                        refine ⟨fun h42 => absurd h42 (show ¬ (0 < (k : Int)) by first | omega | assumption | simp_all), fun h42 => ?_⟩
                        refine ⟨fun h43 => absurd h43 (show ¬ (0 < (k : Int)) by first | omega | assumption | simp_all), fun h43 => ?_⟩
                        refine ⟨fun h44 => absurd h44 (show ¬ (0 < (k : Int)) by first | omega | assumption | simp_all), fun h44 => ?_⟩
                        refine ⟨fun h45 => ?_, fun h45 => absurd h45 (show ¬ (11 < (hs.getD k 0)) by first | omega | assumption | simp_all)⟩
                        refine ⟨fun h46 => absurd h46 (show ¬ (0 < (k : Int)) by first | omega | assumption | simp_all), fun h46 => ?_⟩
                        refine ⟨fun h47 => absurd h47 (show ¬ (11 < (hs.getD k 0)) by first | omega | assumption | simp_all), fun h47 => ?_⟩
                        refine ⟨⟨by show (-9223372036854775808 : Int) ≤ ((k : Int) + 1); omega, by show ((k : Int) + 1) ≤ (9223372036854775807 : Int); omega⟩, ?_⟩
                        exact ⟨rfl, hs.length - (k + 1), by omega, k + 1, by omega, hs_next hkl hc1_1 (by first | (rw [prv_pos hs (by omega)]; omega) | (rw [prv_zero hs (by omega)]; omega)), rfl, rfl, rfl⟩
                    · replace h15 : 11 < (hs.getD k 0) := h15
                      refine ⟨fun h48 => absurd (show 11 < (hs.getD k 0) by first | omega | assumption | simp_all) h48, fun h48 => ?_⟩
                      refine ⟨fun h49 => absurd (show 11 < (hs.getD k 0) by first | omega | assumption | simp_all) h49, fun h49 => ?_⟩
                      refine ⟨fun h50 => absurd (show 11 < (hs.getD k 0) by first | omega | assumption | simp_all) h50, fun h50 => ?_⟩
                      refine ⟨fun h51 => ?_, fun h51 => absurd (show 11 < (hs.getD k 0) by first | omega | assumption | simp_all) h51⟩
                      have e := hs_bad hkl hc1_1 (by omega)
                      refine ⟨rfl, rfl, ?_, rfl⟩
                      unfold chkL
                      repeat' split
                      all_goals first | rfl | omega | (exfalso; simp_all; done)
                  · replace h8 : (hs.getD k 0) < 0 := h8
                    refine ⟨fun h52 => absurd (show (hs.getD k 0) < 0 by first | omega | assumption | simp_all) h52, fun h52 => ?_⟩
                    refine ⟨fun h53 => absurd (show (hs.getD k 0) < 0 by first | omega | assumption | simp_all) h53, fun h53 => ?_⟩
                    refine ⟨fun h54 => absurd (show (hs.getD k 0) < 0 by first | omega | assumption | simp_all) h54, fun h54 => ?_⟩
                    refine ⟨fun h55 => absurd (show (hs.getD k 0) < 0 by first | omega | assumption | simp_all) h55, fun h55 => ?_⟩
                    refine ⟨fun h56 => absurd (show (hs.getD k 0) < 0 by first | omega | assumption | simp_all) h56, fun h56 => ?_⟩
                    refine ⟨fun h57 => ?_, fun h57 => absurd (show (hs.getD k 0) < 0 by first | omega | assumption | simp_all) h57⟩
                    have e := hs_bad hkl hc1_1 (by omega)
                    refine ⟨rfl, rfl, ?_, rfl⟩
                    unfold chkL
                    repeat' split
                    all_goals first | rfl | omega | (exfalso; simp_all; done)
                · replace h7 : ¬ ((k : Int) < (hs.length : Int)) := h7
                  have e := hs_end (by omega) hc1_1
                  refine ⟨fun h58 => ?_, fun h58 => ?_⟩
                  · replace h58 : ¬ (m < 1) := h58
                    refine ⟨fun h59 => ?_, fun h59 => ?_⟩
                    · replace h59 : (hs.length : Int) < m := h59
                      refine ⟨rfl, rfl, ?_, rfl⟩
                      unfold chkL
                      repeat' split
                      all_goals first | rfl | omega | (exfalso; simp_all; done)
                    · replace h59 : ¬ ((hs.length : Int) < m) := h59
                      refine ⟨rfl, rfl, ?_, rfl⟩
                      unfold chkL
                      repeat' split
                      all_goals first | rfl | omega | (exfalso; simp_all; done)
                  · replace h58 : m < 1 := h58
                    refine ⟨rfl, rfl, ?_, rfl⟩
                    unfold chkL
                    repeat' split
                    all_goals first | rfl | omega | (exfalso; simp_all; done)
          · replace h4 : d < 1 := h4
            refine ⟨rfl, rfl, ?_, rfl⟩
            unfold chkL
            repeat' split
            all_goals first | rfl | omega | (exfalso; simp_all; done)
        · replace h3 : 1000000 < l := h3
          refine ⟨rfl, rfl, ?_, rfl⟩
          unfold chkL
          repeat' split
          all_goals first | rfl | omega | (exfalso; simp_all; done)
      · replace h2 : l < b := h2
        refine ⟨rfl, rfl, ?_, rfl⟩
        unfold chkL
        repeat' split
        all_goals first | rfl | omega | (exfalso; simp_all; done)
    · replace h1 : 1000000 < b := h1
      refine ⟨rfl, rfl, ?_, rfl⟩
      unfold chkL
      repeat' split
      all_goals first | rfl | omega | (exfalso; simp_all; done)
  · replace h0 : b < 0 := h0
    refine ⟨rfl, rfl, ?_, rfl⟩
    unfold chkL
    repeat' split
    all_goals first | rfl | omega | (exfalso; simp_all; done)
def CRChk : List (Nat × Con) := (25, pureC [.v (.cons (.int .i64) (.cons (.int .i64) (.cons (.int .i64) (.cons (.int .i64) (.cons (.sl (.int .i64)) .nil)))))] sRChk) :: CRCnt
theorem kRChk : Known Try.prog (En CRChk tys [] QAt) := kRCnt.add Try.func25 Try.call25 [.k] fun ds p v bs h hp => by
  unfold sRChk at h
  split at h <;> simp only [Option.some.injEq, Prod.mk.injEq, reduceCtorEq] at h
  obtain ⟨rfl, rfl, rfl⟩ := h
  exact bRChk _ _ _ _ _ hp
def sRSpn : List V → Option (Prop × V × List Blk)
  | [.agg [.int .i64 b, .int .i64 l, .int .i64 d, .int .i64 m, .sl false (.int .i64) hs], .int .i64 q] => some (hs.length ≤ 2000000, .agg [.int .i64 (if askL b l d m hs q = 0 then spanF b d q else 0), .int .i64 (if askL b l d m hs q = 0 then spanT b l d q else 0), .int .i64 (askL b l d m hs q)], [])
  | _ => none
set_option maxHeartbeats 1000000 in
theorem bRSpn (b : Int) (l : Int) (d : Int) (m : Int) (hs : List Int) (q : Int) (hp0 : hs.length ≤ 2000000) : bodyP (En CRChk tys [] QAt) Try.f19 [.k, .k, .k] [.agg [.int .i64 b, .int .i64 l, .int .i64 d, .int .i64 m, .sl false (.int .i64) hs], .int .i64 q] (.agg [.int .i64 (if askL b l d m hs q = 0 then spanF b d q else 0), .int .i64 (if askL b l d m hs q = 0 then spanT b l d q else 0), .int .i64 (askL b l d m hs q)]) [] := by
  refine ⟨rfl, rfl, rfl, rfl, by show hs.length ≤ 2000000; first | omega | assumption, fun h0 => ?_, fun h0 => ?_⟩
  · replace h0 : (chkL b l d m hs) ≠ 0 := h0
    have e : askL b l d m hs q = chkL b l d m hs := if_neg h0
    have en : ¬ askL b l d m hs q = 0 := by rw [e]; exact h0
    rw [if_neg en, if_neg en, e]
    refine ⟨⟨rfl, rfl, rfl, Nat.le_of_ble_eq_true rfl⟩, ?_⟩
    exact ⟨rfl, rfl, rfl, rfl⟩
  · replace h0 : ¬ ((chkL b l d m hs) ≠ 0) := h0
    have hc := chk0 (Classical.not_not.1 h0)
    obtain ⟨q1, q2, q3, q4, q5, q6, q7, q8, q9, q10, q11⟩ := id hc
    refine ⟨rfl, rfl, rfl, rfl, ⟨by show 0 ≤ b; first | omega | assumption, by show b ≤ l; first | omega | assumption, by show l ≤ 1000000; first | omega | assumption, by show 1 ≤ d; first | omega | assumption⟩, fun h1 => ?_, fun h1 => ?_⟩
    · replace h1 : ¬ (q < 0) := h1
      refine ⟨fun h2 => ?_, fun h2 => ?_⟩
      · replace h2 : (cntL b l d) ≤ q := h2
        have e : askL b l d m hs q = 8 := by unfold askL; rw [if_pos (Classical.not_not.1 h0), if_neg (by omega)]
        have en : ¬ askL b l d m hs q = 0 := by rw [e]; decide
        rw [if_neg en, if_neg en, e]
        refine ⟨⟨rfl, rfl, rfl, Nat.le_of_ble_eq_true rfl⟩, ?_⟩
        exact ⟨rfl, rfl, rfl, rfl⟩
      · replace h2 : ¬ ((cntL b l d) ≤ q) := h2
        obtain ⟨z1, z2, z3⟩ := qn_ok q2 q4 (by omega) (by omega : q < cntL b l d)
        have e : askL b l d m hs q = 0 := hc.ask (by omega) (by omega)
        rw [if_pos e, if_pos e, e]
        refine ⟨⟨by show (-9223372036854775808 : Int) ≤ (q * d); omega, by show (q * d) ≤ (9223372036854775807 : Int); omega⟩, ⟨by show (-9223372036854775808 : Int) ≤ (b + (q * d)); omega, by show (b + (q * d)) ≤ (9223372036854775807 : Int); omega⟩, ⟨by show (-9223372036854775808 : Int) ≤ ((b + (q * d)) + d); omega, by show ((b + (q * d)) + d) ≤ (9223372036854775807 : Int); omega⟩, ⟨by show (-9223372036854775808 : Int) ≤ (((b + (q * d)) + d) - 1); omega, by show (((b + (q * d)) + d) - 1) ≤ (9223372036854775807 : Int); omega⟩, ⟨rfl, rfl, rfl, Nat.le_of_ble_eq_true rfl⟩, ?_⟩
        exact ⟨rfl, rfl, rfl, rfl⟩
    · replace h1 : q < 0 := h1
      have e : askL b l d m hs q = 8 := by unfold askL; rw [if_pos (Classical.not_not.1 h0), if_neg (by omega)]
      have en : ¬ askL b l d m hs q = 0 := by rw [e]; decide
      rw [if_neg en, if_neg en, e]
      refine ⟨⟨rfl, rfl, rfl, Nat.le_of_ble_eq_true rfl⟩, ?_⟩
      exact ⟨rfl, rfl, rfl, rfl⟩
def CRSpn : List (Nat × Con) := (19, pureC [.v (.cons (.int .i64) (.cons (.int .i64) (.cons (.int .i64) (.cons (.int .i64) (.cons (.sl (.int .i64)) .nil))))), .v (.int .i64)] sRSpn) :: CRChk
theorem kRSpn : Known Try.prog (En CRSpn tys [] QAt) := kRChk.add Try.func19 Try.call19 [.k, .k, .k] fun ds p v bs h hp => by
  unfold sRSpn at h
  split at h <;> simp only [Option.some.injEq, Prod.mk.injEq, reduceCtorEq] at h
  obtain ⟨rfl, rfl, rfl⟩ := h
  exact bRSpn _ _ _ _ _ _ hp
def sRExd : List V → Option (Prop × V × List Blk)
  | [.agg [.int .i64 b, .int .i64 l, .int .i64 d, .int .i64 m, .sl false (.int .i64) hs], .int .i64 q] => some (hs.length ≤ 2000000, .agg [.int .i64 (if askL b l d m hs q = 0 then expF b d q else 0), .int .i64 (if askL b l d m hs q = 0 then expT b l d q else 0), .int .i64 (askL b l d m hs q)], [])
  | _ => none
set_option maxHeartbeats 1000000 in
theorem bRExd (b : Int) (l : Int) (d : Int) (m : Int) (hs : List Int) (q : Int) (hp0 : hs.length ≤ 2000000) : bodyP (En CRSpn tys [] QAt) Try.f21 [.k, .k, .k] [.agg [.int .i64 b, .int .i64 l, .int .i64 d, .int .i64 m, .sl false (.int .i64) hs], .int .i64 q] (.agg [.int .i64 (if askL b l d m hs q = 0 then expF b d q else 0), .int .i64 (if askL b l d m hs q = 0 then expT b l d q else 0), .int .i64 (askL b l d m hs q)]) [] := by
  refine ⟨rfl, rfl, rfl, rfl, rfl, by show hs.length ≤ 2000000; first | omega | assumption, ⟨rfl, rfl, rfl, Nat.le_of_ble_eq_true rfl⟩, fun h0 => ?_, fun h0 => ?_⟩
  · replace h0 : (askL b l d m hs q) ≠ 0 := h0
    rw [if_neg h0, if_neg h0]
    refine ⟨⟨rfl, rfl, rfl, Nat.le_of_ble_eq_true rfl⟩, ?_⟩
    rw [if_neg h0, if_neg h0]
    exact ⟨rfl, rfl, rfl, rfl⟩
  · replace h0 : ¬ ((askL b l d m hs q) ≠ 0) := h0
    obtain ⟨hc, hq0, hq1⟩ := ask0 (Classical.not_not.1 h0)
    obtain ⟨q1, q2, q3, q4, q5, q6, q7, q8, q9, q10, q11⟩ := id hc
    have e0 : askL b l d m hs q = 0 := (Classical.not_not.1 h0)
    have e2 : askL b l d m hs (max 0 (q - 1)) = 0 := hc.ask (by omega) (by omega)
    obtain ⟨z1, z2, z3⟩ := qn_ok q2 q4 hq0 hq1
    have hz : spanT b l d q ≤ l ∧ b - 1 ≤ spanT b l d q := by unfold spanT; omega
    have hT : (if askL b l d m hs q = 0 then spanT b l d q else 0) = spanT b l d q := if_pos e0
    refine ⟨⟨by show (-9223372036854775808 : Int) ≤ (q - 1); omega, by show (q - 1) ≤ (9223372036854775807 : Int); omega⟩, rfl, rfl, rfl, rfl, rfl, by show hs.length ≤ 2000000; first | omega | assumption, ⟨rfl, rfl, rfl, Nat.le_of_ble_eq_true rfl⟩, ⟨by show (-9223372036854775808 : Int) ≤ ((if askL b l d m hs q = 0 then spanT b l d q else 0) + 2); omega, by show ((if askL b l d m hs q = 0 then spanT b l d q else 0) + 2) ≤ (9223372036854775807 : Int); omega⟩, ⟨rfl, rfl, rfl, Nat.le_of_ble_eq_true rfl⟩, ?_⟩
    rw [if_pos e2, if_pos e0, if_pos e0, if_pos e0, e0]
    exact ⟨rfl, rfl, rfl, rfl⟩
def CRExd : List (Nat × Con) := (21, pureC [.v (.cons (.int .i64) (.cons (.int .i64) (.cons (.int .i64) (.cons (.int .i64) (.cons (.sl (.int .i64)) .nil))))), .v (.int .i64)] sRExd) :: CRSpn
theorem kRExd : Known Try.prog (En CRExd tys [] QAt) := kRSpn.add Try.func21 Try.call21 [.k, .k, .k] fun ds p v bs h hp => by
  unfold sRExd at h
  split at h <;> simp only [Option.some.injEq, Prod.mk.injEq, reduceCtorEq] at h
  obtain ⟨rfl, rfl, rfl⟩ := h
  exact bRExd _ _ _ _ _ _ hp
def sRPer : List V → Option (Prop × V × List Blk)
  | [.agg [.int .i64 b, .int .i64 l, .int .i64 d, .int .i64 m, .sl false (.int .i64) hs], .int .i64 t] => some (hs.length ≤ 2000000, .int .i64 (perL b l d m hs t), [])
  | _ => none
set_option maxHeartbeats 1000000 in
theorem bRPer (b : Int) (l : Int) (d : Int) (m : Int) (hs : List Int) (t : Int) (hp0 : hs.length ≤ 2000000) : bodyP (En CRExd tys [] QAt) Try.f30 [.k] [.agg [.int .i64 b, .int .i64 l, .int .i64 d, .int .i64 m, .sl false (.int .i64) hs], .int .i64 t] (.int .i64 (perL b l d m hs t)) [] := by
  refine ⟨rfl, rfl, rfl, rfl, by show hs.length ≤ 2000000; first | omega | assumption, fun h0 => ?_, fun h0 => ?_⟩
  · replace h0 : (chkL b l d m hs) ≠ 0 := h0
    rw [show perL b l d m hs t = -1 from if_neg (fun g => h0 g.1)]
    exact ⟨rfl, rfl, rfl, rfl⟩
  · replace h0 : ¬ ((chkL b l d m hs) ≠ 0) := h0
    have hc := chk0 (Classical.not_not.1 h0)
    obtain ⟨q1, q2, q3, q4, q5, q6, q7, q8, q9, q10, q11⟩ := id hc
    refine ⟨rfl, rfl, rfl, rfl, ⟨by show 0 ≤ b; first | omega | assumption, by show b ≤ l; first | omega | assumption, by show l ≤ 1000000; first | omega | assumption, by show 1 ≤ d; first | omega | assumption⟩, 1, [(1, .k), (2, .k), (5, .k), (6, .k)], fun nM vs H => ∃ (k : Nat), (k : Int) ≤ cntL b l d ∧ (∀ x : Nat, x < k → ¬ (spanF b d x ≤ t ∧ t ≤ spanT b l d x)) ∧ nM = (cntL b l d).toNat - k ∧ vs = [.int .i64 t, .ptr 0 1 0 0, .int .i64 (cntL b l d), .int .i64 (k : Int)] ∧ H = [.cells [.int .i64 b, .int .i64 l, .int .i64 d, .int .i64 m, .sl false (.int .i64) hs]], ⟨rfl, (cntL b l d).toNat, 0, by omega, by intro x hx; omega, by omega, rfl, rfl⟩, ?_⟩
    rintro nM vs H ⟨k, hc1_0, hc1_1, rfl, rfl, rfl⟩
    refine ⟨fun h1 => ?_, fun h1 => ?_⟩
    · replace h1 : (k : Int) < (cntL b l d) := h1
      have e := hc.ask (q := (k : Int)) (by omega) h1
      refine ⟨rfl, rfl, rfl, rfl, rfl, by show hs.length ≤ 2000000; first | omega | assumption, ⟨rfl, rfl, rfl, Nat.le_of_ble_eq_true rfl⟩, fun h2 => ?_, fun h2 => ?_⟩
      · replace h2 : (if askL b l d m hs (k : Int) = 0 then spanF b d (k : Int) else 0) ≤ t := h2
        rw [if_pos e] at h2
        refine ⟨fun h3 => ?_, fun h3 => ?_⟩
        · replace h3 : t ≤ (if askL b l d m hs (k : Int) = 0 then spanT b l d (k : Int) else 0) := h3
          rw [if_pos e] at h3
          rw [per_span hc (by omega) h1 h2 h3]
          exact ⟨rfl, rfl, rfl, rfl⟩
        · replace h3 : ¬ (t ≤ (if askL b l d m hs (k : Int) = 0 then spanT b l d (k : Int) else 0)) := h3
          rw [if_pos e] at h3
          refine ⟨⟨by show (-9223372036854775808 : Int) ≤ ((k : Int) + 1); omega, by show ((k : Int) + 1) ≤ (9223372036854775807 : Int); omega⟩, ?_⟩
          exact ⟨rfl, (cntL b l d).toNat - (k + 1), by omega, k + 1, by omega, fun x hx => if h : x < k then hc1_1 x h else by (obtain rfl : x = k := by omega); omega, rfl, rfl, rfl⟩
      · replace h2 : ¬ ((if askL b l d m hs (k : Int) = 0 then spanF b d (k : Int) else 0) ≤ t) := h2
        rw [if_pos e] at h2
        refine ⟨⟨by show (-9223372036854775808 : Int) ≤ ((k : Int) + 1); omega, by show ((k : Int) + 1) ≤ (9223372036854775807 : Int); omega⟩, ?_⟩
        exact ⟨rfl, (cntL b l d).toNat - (k + 1), by omega, k + 1, by omega, fun x hx => if h : x < k then hc1_1 x h else by (obtain rfl : x = k := by omega); omega, rfl, rfl, rfl⟩
    · replace h1 : ¬ ((k : Int) < (cntL b l d)) := h1
      rw [per_none hc (by omega) hc1_1]
      exact ⟨rfl, rfl, rfl, rfl⟩
def CRPer : List (Nat × Con) := (30, pureC [.v (.cons (.int .i64) (.cons (.int .i64) (.cons (.int .i64) (.cons (.int .i64) (.cons (.sl (.int .i64)) .nil))))), .v (.int .i64)] sRPer) :: CRExd
theorem kRPer : Known Try.prog (En CRPer tys [] QAt) := kRExd.add Try.func30 Try.call30 [.k] fun ds p v bs h hp => by
  unfold sRPer at h
  split at h <;> simp only [Option.some.injEq, Prod.mk.injEq, reduceCtorEq] at h
  obtain ⟨rfl, rfl, rfl⟩ := h
  exact bRPer _ _ _ _ _ _ hp
def sRHas : List V → Option (Prop × V × List Blk)
  | [.sl false (.int .i64) s, .int .i64 x] => some (s.length ≤ 2000000, .b (x ∈ s), [])
  | _ => none
set_option maxHeartbeats 1000000 in
theorem bRHas (s : List Int) (x : Int) (hp0 : s.length ≤ 2000000) : bodyP (En CRPer tys [] QAt) Try.f91 [.k] [.sl false (.int .i64) s, .int .i64 x] (.b (x ∈ s)) [] := by
  refine ⟨0, [(0, .k), (1, .k), (5, .k)], fun nM vs H => ∃ (k : Nat), k ≤ s.length ∧ ¬ x ∈ s.take k ∧ nM = s.length - k ∧ vs = [.sl false (.int .i64) s, .int .i64 x, .int .i64 (k : Int)] ∧ H = [], ⟨rfl, s.length, 0, by omega, by simp, by omega, rfl, rfl⟩, ?_⟩
  rintro nM vs H ⟨k, hc1_0, hc1_1, rfl, rfl, rfl⟩
  refine ⟨fun h0 => ?_, fun h0 => ?_⟩
  · replace h0 : (k : Int) < (s.length : Int) := h0
    refine ⟨⟨by show (0 : Int) ≤ (k : Int); omega, by show (k : Int) < (s.length : Int); omega⟩, fun h1 => ?_, fun h1 => ?_⟩
    · replace h1 : (s.getD k 0) = x := h1
      exact ⟨rfl, rfl, congrArg V.b (propext ⟨fun _ => h1 ▸ getD_mem 0 s k (by omega), fun _ => rfl⟩), rfl⟩
    · replace h1 : ¬ ((s.getD k 0) = x) := h1
      refine ⟨⟨by show (-9223372036854775808 : Int) ≤ ((k : Int) + 1); omega, by show ((k : Int) + 1) ≤ (9223372036854775807 : Int); omega⟩, ?_⟩
      exact ⟨rfl, s.length - (k + 1), by omega, k + 1, by omega, not_take (by omega) hc1_1 h1, rfl, rfl, rfl⟩
  · replace h0 : ¬ ((k : Int) < (s.length : Int)) := h0
    exact ⟨rfl, rfl, congrArg V.b (propext ⟨fun h => Bool.noConfusion h, fun h => absurd (by rw [List.take_of_length_le (by omega)]; exact h) hc1_1⟩), rfl⟩
def CRHas : List (Nat × Con) := (91, pureC [.v (.sl (.int .i64)), .v (.int .i64)] sRHas) :: CRPer
theorem kRHas : Known Try.prog (En CRHas tys [] QAt) := kRPer.add Try.func91 Try.call91 [.k] fun ds p v bs h hp => by
  unfold sRHas at h
  split at h <;> simp only [Option.some.injEq, Prod.mk.injEq, reduceCtorEq] at h
  obtain ⟨rfl, rfl, rfl⟩ := h
  exact bRHas _ _ hp
def sRSam : List V → Option (Prop × V × List Blk)
  | [.sl false (.int .i64) s, .sl false (.int .i64) t] => some (s.length ≤ 2000000 ∧ t.length ≤ 2000000, .b (s = t), [])
  | _ => none
set_option maxHeartbeats 1000000 in
theorem bRSam (s : List Int) (t : List Int) (hp0 : s.length ≤ 2000000) (hp1 : t.length ≤ 2000000) : bodyP (En CRHas tys [] QAt) Try.f37 [.k] [.sl false (.int .i64) s, .sl false (.int .i64) t] (.b (s = t)) [] := by
  refine ⟨fun h0 => ?_, fun h0 => ?_⟩
  · replace h0 : (s.length : Int) ≠ (t.length : Int) := h0
    exact ⟨rfl, rfl, congrArg V.b (propext ⟨fun h => Bool.noConfusion h, fun e => absurd (by rw [e]) h0⟩), rfl⟩
  · replace h0 : ¬ ((s.length : Int) ≠ (t.length : Int)) := h0
    refine ⟨0, [(0, .k), (1, .k), (5, .k)], fun nM vs H => ∃ (k : Nat), k ≤ s.length ∧ s.length = t.length ∧ (∀ i, i < k → s.getD i 0 = t.getD i 0) ∧ nM = s.length - k ∧ vs = [.sl false (.int .i64) s, .sl false (.int .i64) t, .int .i64 (k : Int)] ∧ H = [], ⟨rfl, s.length, 0, by omega, by omega, by intro i hi; omega, by omega, rfl, rfl⟩, ?_⟩
    rintro nM vs H ⟨k, hc1_0, hc1_1, hc1_2, rfl, rfl, rfl⟩
    refine ⟨fun h1 => ?_, fun h1 => ?_⟩
    · replace h1 : (k : Int) < (s.length : Int) := h1
      refine ⟨by kernel_rfl, ⟨by show (0 : Int) ≤ (k : Int); omega, by show (k : Int) < (s.length : Int); omega⟩, ⟨by show (0 : Int) ≤ (k : Int); omega, by show (k : Int) < (t.length : Int); omega⟩, fun h2 => ?_, fun h2 => ?_⟩
      · replace h2 : (s.getD k 0) ≠ (t.getD k 0) := h2
        exact ⟨rfl, rfl, congrArg V.b (propext ⟨fun h => Bool.noConfusion h, fun e => absurd (by rw [e]) h2⟩), rfl⟩
      · replace h2 : ¬ ((s.getD k 0) ≠ (t.getD k 0)) := h2
        refine ⟨⟨by show (-9223372036854775808 : Int) ≤ ((k : Int) + 1); omega, by show ((k : Int) + 1) ≤ (9223372036854775807 : Int); omega⟩, ?_⟩
        exact ⟨rfl, s.length - (k + 1), by omega, k + 1, by omega, by omega, fun i hi => if h : i < k then hc1_2 i h else by (obtain rfl : i = k := by omega); exact Classical.not_not.1 h2, rfl, rfl, rfl⟩
    · replace h1 : ¬ ((k : Int) < (s.length : Int)) := h1
      exact ⟨rfl, rfl, congrArg V.b (propext ⟨fun _ => list_eq 0 hc1_1 (fun i hi => hc1_2 i (by omega)), fun _ => rfl⟩), rfl⟩
def CRSam : List (Nat × Con) := (37, pureC [.v (.sl (.int .i64)), .v (.sl (.int .i64))] sRSam) :: CRHas
theorem kRSam : Known Try.prog (En CRSam tys [] QAt) := kRHas.add Try.func37 Try.call37 [.k] fun ds p v bs h hp => by
  unfold sRSam at h
  split at h <;> simp only [Option.some.injEq, Prod.mk.injEq, reduceCtorEq] at h
  obtain ⟨rfl, rfl, rfl⟩ := h
  exact bRSam _ _ hp.1 hp.2
def sRExt : List V → Option (Prop × V × List Blk)
  | [.agg [.int .i64 b, .int .i64 l, .int .i64 d, .int .i64 m, .sl false (.int .i64) hs], .int .i64 x] => some (hs.length ≤ 2000000, .agg [.int .i64 (ext0 b l d m hs x b), .int .i64 (ext0 b l d m hs x x), .int .i64 (ext0 b l d m hs x d), .int .i64 (ext0 b l d m hs x m), .sl (extR b l d m hs x) (.int .i64) (extH b l d m hs x), .int .i64 (extE b l d m hs x)], [])
  | _ => none
set_option maxHeartbeats 1000000 in
theorem bRExt (b : Int) (l : Int) (d : Int) (m : Int) (hs : List Int) (x : Int) (hp0 : hs.length ≤ 2000000) : bodyI (En CRSam tys [] QAt) Try.f23 [.k, .k, .k, .k, .d (.int .i64), .k] [.agg [.int .i64 b, .int .i64 l, .int .i64 d, .int .i64 m, .sl false (.int .i64) hs], .int .i64 x] (.agg [.int .i64 (ext0 b l d m hs x b), .int .i64 (ext0 b l d m hs x x), .int .i64 (ext0 b l d m hs x d), .int .i64 (ext0 b l d m hs x m), .sl (extR b l d m hs x) (.int .i64) (extH b l d m hs x), .int .i64 (extE b l d m hs x)]) [] := by
  refine ⟨rfl, rfl, rfl, rfl, by show hs.length ≤ 2000000; first | omega | assumption, fun h0 => ?_, fun h0 => ?_⟩
  · replace h0 : (chkL b l d m hs) ≠ 0 := h0
    refine ⟨⟨rfl, rfl, rfl, Nat.le_of_ble_eq_true rfl⟩, ?_⟩
    have hE : extE b l d m hs x = chkL b l d m hs := if_neg h0
    have hz : ∀ y, ext0 b l d m hs x y = 0 := fun y => if_neg (by rw [hE]; first | exact h0 | exact h2 | omega)
    have hh : extH b l d m hs x = [] := if_neg (by rw [hE]; first | exact h0 | exact h2 | omega)
    rw [hz, hz, hz, hz, hh, show extR b l d m hs x = true by unfold extR; rw [decide_eq_false (by rw [hE]; first | exact h0 | exact h2 | omega)]; rfl, hE]
    exact ⟨rfl, rfl, rfl, rfl⟩
  · replace h0 : ¬ ((chkL b l d m hs) ≠ 0) := h0
    refine ⟨fun h1 => ?_, fun h1 => ?_⟩
    · replace h1 : x ≤ l := h1
      refine ⟨⟨rfl, rfl, rfl, Nat.le_of_ble_eq_true rfl⟩, ?_⟩
      have hE : extE b l d m hs x = 4 := by unfold extE; rw [if_pos (Classical.not_not.1 h0), if_pos h1]
      have hz : ∀ y, ext0 b l d m hs x y = 0 := fun y => if_neg (by rw [hE]; first | exact h0 | exact h2 | omega)
      have hh : extH b l d m hs x = [] := if_neg (by rw [hE]; first | exact h0 | exact h2 | omega)
      rw [hz, hz, hz, hz, hh, show extR b l d m hs x = true by unfold extR; rw [decide_eq_false (by rw [hE]; first | exact h0 | exact h2 | omega)]; rfl, hE]
      exact ⟨rfl, rfl, rfl, rfl⟩
    · replace h1 : ¬ (x ≤ l) := h1
      refine ⟨⟨rfl, rfl, rfl⟩, rfl, rfl, rfl, rfl, by show hs.length ≤ 2000000; first | omega | assumption, fun h2 => ?_, fun h2 => ?_⟩
      · replace h2 : (chkL b x d m hs) ≠ 0 := h2
        refine ⟨⟨rfl, rfl, rfl, Nat.le_of_ble_eq_true rfl⟩, ?_⟩
        have hE : extE b l d m hs x = chkL b x d m hs := by unfold extE; rw [if_pos (Classical.not_not.1 h0), if_neg h1]
        have hz : ∀ y, ext0 b l d m hs x y = 0 := fun y => if_neg (by rw [hE]; first | exact h0 | exact h2 | omega)
        have hh : extH b l d m hs x = [] := if_neg (by rw [hE]; first | exact h0 | exact h2 | omega)
        rw [hz, hz, hz, hz, hh, show extR b l d m hs x = true by unfold extR; rw [decide_eq_false (by rw [hE]; first | exact h0 | exact h2 | omega)]; rfl, hE]
        exact ⟨rfl, rfl, rfl, rfl⟩
      · replace h2 : ¬ ((chkL b x d m hs) ≠ 0) := h2
        refine ⟨⟨rfl, rfl, rfl, Nat.le_of_ble_eq_true rfl⟩, ?_⟩
        have hE : extE b l d m hs x = 0 := by unfold extE; rw [if_pos (Classical.not_not.1 h0), if_neg h1]; exact (Classical.not_not.1 h2)
        have hz : ∀ y, ext0 b l d m hs x y = y := fun y => if_pos hE
        have hh : extH b l d m hs x = hs := if_pos hE
        rw [hz, hz, hz, hz, hh, show extR b l d m hs x = false by unfold extR; rw [decide_eq_true hE]; rfl, hE]
        exact ⟨rfl, rfl, rfl, rfl⟩
def CRExt : List (Nat × Con) := (23, immC [.v (.cons (.int .i64) (.cons (.int .i64) (.cons (.int .i64) (.cons (.int .i64) (.cons (.sl (.int .i64)) .nil))))), .v (.int .i64)] sRExt) :: CRSam
theorem kRExt : Known Try.prog (En CRExt tys [] QAt) := kRSam.addI Try.func23 Try.call23 [.k, .k, .k, .k, .d (.int .i64), .k] fun ds p v bs h hp => by
  unfold sRExt at h
  split at h <;> simp only [Option.some.injEq, Prod.mk.injEq, reduceCtorEq] at h
  obtain ⟨rfl, rfl, rfl⟩ := h
  exact bRExt _ _ _ _ _ _ hp
def sRSme : List V → Option (Prop × V × List Blk)
  | [.agg [.int .i64 b, .int .i64 l, .int .i64 d, .int .i64 m, .sl false (.int .i64) hs], .agg [.int .i64 b2, .int .i64 l2, .int .i64 d2, .int .i64 m2, .sl false (.int .i64) ks]] => some (hs.length ≤ 2000000 ∧ ks.length ≤ 2000000, .b (hs = ks ∧ b = b2 ∧ l = l2 ∧ d = d2 ∧ m = m2), [])
  | _ => none
set_option maxHeartbeats 1000000 in
theorem bRSme (b : Int) (l : Int) (d : Int) (m : Int) (hs : List Int) (b2 : Int) (l2 : Int) (d2 : Int) (m2 : Int) (ks : List Int) (hp0 : hs.length ≤ 2000000) (hp1 : ks.length ≤ 2000000) : bodyP (En CRExt tys [] QAt) Try.f24 [.k] [.agg [.int .i64 b, .int .i64 l, .int .i64 d, .int .i64 m, .sl false (.int .i64) hs], .agg [.int .i64 b2, .int .i64 l2, .int .i64 d2, .int .i64 m2, .sl false (.int .i64) ks]] (.b (hs = ks ∧ b = b2 ∧ l = l2 ∧ d = d2 ∧ m = m2)) [] := by
  refine ⟨⟨by show hs.length ≤ 2000000; first | omega | assumption, by show ks.length ≤ 2000000; first | omega | assumption⟩, fun h0 => ?_, fun h0 => ?_⟩
  · replace h0 : hs = ks := h0
    refine ⟨fun h1 => ?_, fun h1 => ?_⟩
    · replace h1 : b = b2 := h1
      refine ⟨fun h2 => ?_, fun h2 => ?_⟩
      · replace h2 : l = l2 := h2
        refine ⟨fun h3 => ?_, fun h3 => ?_⟩
        · replace h3 : d = d2 := h3
          exact ⟨rfl, rfl, congrArg V.b (propext (by constructor <;> intro h <;> simp_all)), rfl⟩
        · replace h3 : ¬ (d = d2) := h3
          exact ⟨rfl, rfl, congrArg V.b (propext (by constructor <;> intro h <;> simp_all)), rfl⟩
      · replace h2 : ¬ (l = l2) := h2
        exact ⟨rfl, rfl, congrArg V.b (propext (by constructor <;> intro h <;> simp_all)), rfl⟩
    · replace h1 : ¬ (b = b2) := h1
      exact ⟨rfl, rfl, congrArg V.b (propext (by constructor <;> intro h <;> simp_all)), rfl⟩
  · replace h0 : ¬ (hs = ks) := h0
    exact ⟨rfl, rfl, congrArg V.b (propext (by constructor <;> intro h <;> simp_all)), rfl⟩
def CRSme : List (Nat × Con) := (24, pureC [.v (.cons (.int .i64) (.cons (.int .i64) (.cons (.int .i64) (.cons (.int .i64) (.cons (.sl (.int .i64)) .nil))))), .v (.cons (.int .i64) (.cons (.int .i64) (.cons (.int .i64) (.cons (.int .i64) (.cons (.sl (.int .i64)) .nil)))))] sRSme) :: CRExt
theorem kRSme : Known Try.prog (En CRSme tys [] QAt) := kRExt.add Try.func24 Try.call24 [.k] fun ds p v bs h hp => by
  unfold sRSme at h
  split at h <;> simp only [Option.some.injEq, Prod.mk.injEq, reduceCtorEq] at h
  obtain ⟨rfl, rfl, rfl⟩ := h
  exact bRSme _ _ _ _ _ _ _ _ _ _ hp.1 hp.2
def sRSAg : List V → Option (Prop × V × List Blk)
  | [.agg [.int .i64 M1, .int .i64 Y1, .b L1, .sl false (.int .i64) W1, .sl false (.int .i64) T1, .sl false (.int .i64) R1], .agg [.int .i64 M2, .int .i64 Y2, .b L2, .sl false (.int .i64) W2, .sl false (.int .i64) T2, .sl false (.int .i64) R2]] => some (W1.length ≤ 2000000 ∧ T1.length ≤ 2000000 ∧ R1.length ≤ 2000000 ∧ W2.length ≤ 2000000 ∧ T2.length ≤ 2000000 ∧ R2.length ≤ 2000000, .b (W1 = W2 ∧ T1 = T2 ∧ R1 = R2 ∧ M1 = M2 ∧ Y1 = Y2 ∧ (L1 ↔ L2)), [])
  | _ => none
set_option maxHeartbeats 2000000 in
theorem bRSAg (M1 : Int) (Y1 : Int) (L1 : Prop) (W1 : List Int) (T1 : List Int) (R1 : List Int) (M2 : Int) (Y2 : Int) (L2 : Prop) (W2 : List Int) (T2 : List Int) (R2 : List Int) (hp0 : W1.length ≤ 2000000) (hp1 : T1.length ≤ 2000000) (hp2 : R1.length ≤ 2000000) (hp3 : W2.length ≤ 2000000) (hp4 : T2.length ≤ 2000000) (hp5 : R2.length ≤ 2000000) : bodyP (En CRSme tys [] QAt) Try.f42 [.k] [.agg [.int .i64 M1, .int .i64 Y1, .b L1, .sl false (.int .i64) W1, .sl false (.int .i64) T1, .sl false (.int .i64) R1], .agg [.int .i64 M2, .int .i64 Y2, .b L2, .sl false (.int .i64) W2, .sl false (.int .i64) T2, .sl false (.int .i64) R2]] (.b (W1 = W2 ∧ T1 = T2 ∧ R1 = R2 ∧ M1 = M2 ∧ Y1 = Y2 ∧ (L1 ↔ L2))) [] := by
  refine ⟨⟨by show W1.length ≤ 2000000; first | omega | assumption, by show W2.length ≤ 2000000; first | omega | assumption⟩, ⟨by show T1.length ≤ 2000000; first | omega | assumption, by show T2.length ≤ 2000000; first | omega | assumption⟩, ⟨by show R1.length ≤ 2000000; first | omega | assumption, by show R2.length ≤ 2000000; first | omega | assumption⟩, fun h0 => ?_, fun h0 => ?_⟩
  · replace h0 : W1 = W2 := h0
    refine ⟨fun h1 => ?_, fun h1 => ?_⟩
    · replace h1 : T1 = T2 := h1
      refine ⟨fun h2 => ?_, fun h2 => ?_⟩
      · replace h2 : R1 = R2 := h2
        refine ⟨fun h3 => ?_, fun h3 => ?_⟩
        · replace h3 : M1 = M2 := h3
          refine ⟨fun h4 => ?_, fun h4 => ?_⟩
          · replace h4 : Y1 = Y2 := h4
            exact ⟨rfl, rfl, congrArg V.b (propext (by constructor <;> intro h <;> simp_all)), rfl⟩
          · replace h4 : ¬ (Y1 = Y2) := h4
            exact ⟨rfl, rfl, congrArg V.b (propext (by constructor <;> intro h <;> simp_all)), rfl⟩
        · replace h3 : ¬ (M1 = M2) := h3
          exact ⟨rfl, rfl, congrArg V.b (propext (by constructor <;> intro h <;> simp_all)), rfl⟩
      · replace h2 : ¬ (R1 = R2) := h2
        exact ⟨rfl, rfl, congrArg V.b (propext (by constructor <;> intro h <;> simp_all)), rfl⟩
    · replace h1 : ¬ (T1 = T2) := h1
      exact ⟨rfl, rfl, congrArg V.b (propext (by constructor <;> intro h <;> simp_all)), rfl⟩
  · replace h0 : ¬ (W1 = W2) := h0
    exact ⟨rfl, rfl, congrArg V.b (propext (by constructor <;> intro h <;> simp_all)), rfl⟩
def CRSAg : List (Nat × Con) := (42, pureC [.v (.cons (.int .i64) (.cons (.int .i64) (.cons .bool (.cons (.sl (.int .i64)) (.cons (.sl (.int .i64)) (.cons (.sl (.int .i64)) .nil)))))), .v (.cons (.int .i64) (.cons (.int .i64) (.cons .bool (.cons (.sl (.int .i64)) (.cons (.sl (.int .i64)) (.cons (.sl (.int .i64)) .nil))))))] sRSAg) :: CRSme
theorem kRSAg : Known Try.prog (En CRSAg tys [] QAt) := kRSme.add Try.func42 Try.call42 [.k] fun ds p v bs h hp => by
  unfold sRSAg at h
  split at h <;> simp only [Option.some.injEq, Prod.mk.injEq, reduceCtorEq] at h
  obtain ⟨rfl, rfl, rfl⟩ := h
  exact bRSAg _ _ _ _ _ _ _ _ _ _ _ _ hp.1 hp.2.1 hp.2.2.1 hp.2.2.2.1 hp.2.2.2.2.1 hp.2.2.2.2.2
def sRFew : List V → Option (Prop × V × List Blk)
  | [.agg [.int .i64 b, .int .i64 l, .int .i64 d, .int .i64 m, .sl false (.int .i64) hs], .int .i64 x] => some (hs.length ≤ 2000000, .b (fewP b l d m hs x), [])
  | _ => none
set_option maxHeartbeats 1000000 in
theorem bRFew (b : Int) (l : Int) (d : Int) (m : Int) (hs : List Int) (x : Int) (hp0 : hs.length ≤ 2000000) : bodyP (En CRSAg tys [] QAt) Try.f16 [.k] [.agg [.int .i64 b, .int .i64 l, .int .i64 d, .int .i64 m, .sl false (.int .i64) hs], .int .i64 x] (.b (fewP b l d m hs x)) [] := by
  refine ⟨fun h0 => ?_, fun h0 => ?_⟩
  · replace h0 : 30 < (hs.length : Int) := h0
    exact ⟨rfl, rfl, congrArg V.b (propext ⟨fun h => Bool.noConfusion h, fun g => absurd g.1 (by omega)⟩), rfl⟩
  · replace h0 : ¬ (30 < (hs.length : Int)) := h0
    refine ⟨rfl, rfl, rfl, rfl, by show hs.length ≤ 2000000; first | omega | assumption, fun h1 => ?_, fun h1 => ?_⟩
    · replace h1 : (chkL b l d m hs) ≠ 0 := h1
      exact ⟨rfl, rfl, congrArg V.b (propext ⟨fun _ => ⟨by omega, fun e => absurd e h1⟩, fun _ => rfl⟩), rfl⟩
    · replace h1 : ¬ ((chkL b l d m hs) ≠ 0) := h1
      have hc := chk0 (Classical.not_not.1 h1)
      obtain ⟨q1, q2, q3, q4, q5, q6, q7, q8, q9, q10, q11⟩ := id hc
      refine ⟨rfl, rfl, rfl, rfl, ⟨by show 0 ≤ b; first | omega | assumption, by show b ≤ l; first | omega | assumption, by show l ≤ 1000000; first | omega | assumption, by show 1 ≤ d; first | omega | assumption⟩, ?_⟩
      exact ⟨rfl, rfl, congrArg V.b (propext ⟨fun g => ⟨by omega, fun _ => g⟩, fun g => g.2 (Classical.not_not.1 h1)⟩), rfl⟩
def CRFew : List (Nat × Con) := (16, pureC [.v (.cons (.int .i64) (.cons (.int .i64) (.cons (.int .i64) (.cons (.int .i64) (.cons (.sl (.int .i64)) .nil))))), .v (.int .i64)] sRFew) :: CRSAg
theorem kRFew : Known Try.prog (En CRFew tys [] QAt) := kRSAg.add Try.func16 Try.call16 [.k] fun ds p v bs h hp => by
  unfold sRFew at h
  split at h <;> simp only [Option.some.injEq, Prod.mk.injEq, reduceCtorEq] at h
  obtain ⟨rfl, rfl, rfl⟩ := h
  exact bRFew _ _ _ _ _ _ hp
end Go.Proofs.Ytgljcfnplkcfhaa.S29

namespace Go.Proofs.Ytgljcfnplkcfhaa.S29
open Go Go.Proofs.Ytgljcfnplkcfhaa.Vc Go.Proofs
set_option maxRecDepth 100000
set_option linter.unusedVariables false

instance (b l d m : Int) (hs held : List Int) (t : Int) : Decidable (lokL b l d m hs held t) := by unfold lokL; infer_instance
instance (b l d m : Int) (hs : List Int) (n : Int) : Decidable (fewP b l d m hs n) := by unfold fewP; infer_instance
def sExa : List V → Option (Prop × V × List Blk)
  | [] => some (True, .agg [.int .i64 10, .int .i64 24, .int .i64 5, .int .i64 2, .own (.int .i64) 0], [.row true (.int .i64) ([0, 1, 2] : List Int)])
  | _ => none
set_option maxHeartbeats 1000000 in
theorem bExa   : bodyP (En CRFew tys [] QAt) Try.f73 [.k, .k, .k, .k, .o (.int .i64)] [] (.agg [.int .i64 10, .int .i64 24, .int .i64 5, .int .i64 2, .own (.int .i64) 0]) [.row true (.int .i64) ([0, 1, 2] : List Int)] := by
  refine ⟨rfl, rfl, rfl, ⟨rfl, rfl, rfl, Nat.le_of_ble_eq_true rfl⟩, ?_⟩
  exact ⟨rfl, rfl, rfl, rfl⟩
def CExa : List (Nat × Con) := (73, pureC [] sExa) :: CRFew
theorem kExa : Known Try.prog (En CExa tys [] QAt) := kRFew.add Try.func73 Try.call73 [.k, .k, .k, .k, .o (.int .i64)] fun ds p v bs h hp => by
  unfold sExa at h
  split at h <;> simp only [Option.some.injEq, Prod.mk.injEq, reduceCtorEq] at h
  obtain ⟨rfl, rfl, rfl⟩ := h
  exact bExa 
def sSan : List V → Option (Prop × V × List Blk)
  | [] => some (True, .b True, [])
  | _ => none
set_option maxHeartbeats 8000000 in
theorem bSan   : bodyP (En CExa tys [] QAt) Try.f17 [.k] [] (.b True) [] := by
  refine ⟨trivial, ⟨rfl, rfl, rfl, Nat.le_of_ble_eq_true rfl⟩, rfl, rfl, rfl, rfl, rfl, by decide +kernel, rfl, rfl, rfl, rfl, rfl, by decide +kernel, rfl, rfl, rfl, rfl, rfl, rfl, rfl, rfl, ⟨by decide +kernel, by decide +kernel⟩, ⟨rfl, rfl, rfl, Nat.le_of_ble_eq_true rfl⟩, rfl, rfl, rfl, rfl, rfl, rfl, ⟨by decide +kernel, by decide +kernel⟩, ⟨rfl, rfl, rfl, Nat.le_of_ble_eq_true rfl⟩, rfl, rfl, rfl, rfl, rfl, rfl, rfl, rfl, rfl, ⟨by decide +kernel, by decide +kernel⟩, rfl, rfl, rfl, rfl, rfl, rfl, rfl, rfl, rfl, ⟨by decide +kernel, by decide +kernel⟩, rfl, rfl, rfl, rfl, rfl, ⟨by decide +kernel, by decide +kernel⟩, rfl, rfl, rfl, rfl, rfl, ⟨by decide +kernel, by decide +kernel⟩, rfl, rfl, rfl, rfl, rfl, rfl, rfl, rfl, rfl, rfl, rfl, rfl, rfl, ⟨by decide +kernel, by decide +kernel⟩, rfl, rfl, rfl, rfl, rfl, rfl, rfl, by decide +kernel, rfl, rfl, rfl, rfl, rfl, rfl, rfl, by decide +kernel, rfl, rfl, rfl, rfl, rfl, by decide +kernel, ⟨rfl, rfl, rfl, Nat.le_of_ble_eq_true rfl⟩, rfl, rfl, rfl, rfl, rfl, by decide +kernel, ⟨rfl, rfl, rfl, Nat.le_of_ble_eq_true rfl⟩, fun h0 => ?_, fun h0 => absurd (show (askL 10 24 5 2 ([0, 1, 2] : List Int) 1) = 0 by decide +kernel) h0⟩
  refine ⟨fun h1 => ?_, fun h1 => absurd (show (askL 10 24 5 2 ([0, 1, 2] : List Int) 1) = 0 by decide +kernel) h1⟩
  refine ⟨fun h2 => ?_, fun h2 => absurd (show (lokE 10 24 5 2 ([0, 1, 2] : List Int) ([0, 1, 2] : List Int) 17) = 0 by decide +kernel) h2⟩
  refine ⟨fun h3 => ?_, fun h3 => absurd (show (lokE 10 24 5 2 ([0, 1, 2] : List Int) ([2] : List Int) 25) = 0 by decide +kernel) h3⟩
  refine ⟨fun h4 => ?_, fun h4 => absurd (show (redL 10 24 5 2 ([0, 1, 2] : List Int) 0 ([(0, 12, ()), (1, 21, ())] : List (Int × (Int × Unit)))) = 0 by decide +kernel) h4⟩
  refine ⟨fun h5 => ?_, fun h5 => absurd (show (redL 10 24 5 2 ([0, 1, 2] : List Int) 0 ([(0, 12, ()), (1, 22, ())] : List (Int × (Int × Unit)))) = 0 by decide +kernel) h5⟩
  refine ⟨fun h6 => ?_, fun h6 => absurd (show (redL 10 24 5 2 ([0, 1, 2] : List Int) 4 ([(0, 12, ()), (1, 22, ())] : List (Int × (Int × Unit)))) = 0 by decide +kernel) h6⟩
  refine ⟨fun h7 => ?_, fun h7 => absurd (show (senE 10 24 5 2 ([0, 1, 2] : List Int) ([(0, 12, ()), (1, 22, ())] : List (Int × (Int × Unit))) 2) = 0 by decide +kernel) h7⟩
  refine ⟨fun h8 => ?_, fun h8 => absurd (show (lstE 10 24 5 2 ([0, 1, 2] : List Int) 0 ([(0, 12, ()), (1, 30, ()), (1, 13, ()), (2, 21, ())] : List (Int × (Int × Unit)))) = 0 by decide +kernel) h8⟩
  refine ⟨fun h9 => ?_, fun h9 => absurd (show (safE 10 24 5 2 ([0, 1, 2] : List Int) 0 12 1) = 0 by decide +kernel) h9⟩
  refine ⟨fun h10 => ?_, fun h10 => absurd (show (safE 10 24 5 2 ([0, 1, 2] : List Int) 0 11 1) = 0 by decide +kernel) h10⟩
  refine ⟨fun h11 => ?_, fun h11 => absurd (show (extE 10 24 5 2 ([0, 1, 2] : List Int) 26) = 0 by decide +kernel) h11⟩
  refine ⟨fun h12 => ?_, fun h12 => absurd (show (if askL 10 24 5 2 ([0, 1, 2] : List Int) 1 = 0 then expF 10 5 1 else 0) = 10 by decide +kernel) h12⟩
  refine ⟨fun h13 => ?_, fun h13 => absurd (show (if askL 10 24 5 2 ([0, 1, 2] : List Int) 1 = 0 then expT 10 24 5 1 else 0) = 21 by decide +kernel) h13⟩
  refine ⟨fun h14 => ?_, fun h14 => absurd (show (if askL 10 24 5 2 ([0, 1, 2] : List Int) 1 = 0 then spanF 10 5 1 else 0) = 15 by decide +kernel) h14⟩
  refine ⟨fun h15 => ?_, fun h15 => absurd (show (if askL 10 24 5 2 ([0, 1, 2] : List Int) 1 = 0 then spanT 10 24 5 1 else 0) = 19 by decide +kernel) h15⟩
  refine ⟨rfl, rfl, rfl, rfl, by decide +kernel, fun h16 => ?_, fun h16 => absurd (show (if chkL 10 24 5 2 ([0, 1, 2] : List Int) = 0 then cntL 10 24 5 else 0) = 3 by decide +kernel) h16⟩
  refine ⟨rfl, rfl, rfl, rfl, rfl, by decide +kernel, fun h17 => ?_, fun h17 => absurd (show (perL 10 24 5 2 ([0, 1, 2] : List Int) 14) = 0 by decide +kernel) h17⟩
  refine ⟨rfl, rfl, rfl, rfl, rfl, by decide +kernel, fun h18 => ?_, fun h18 => absurd (show (perL 10 24 5 2 ([0, 1, 2] : List Int) 25) = (-1) by decide +kernel) h18⟩
  refine ⟨rfl, rfl, rfl, rfl, by decide +kernel, fun h19 => ?_, fun h19 => absurd (show (if chkL (ext0 10 24 5 2 ([0, 1, 2] : List Int) 26 10) (ext0 10 24 5 2 ([0, 1, 2] : List Int) 26 26) (ext0 10 24 5 2 ([0, 1, 2] : List Int) 26 5) (ext0 10 24 5 2 ([0, 1, 2] : List Int) 26 2) (extH 10 24 5 2 ([0, 1, 2] : List Int) 26) = 0 then cntL (ext0 10 24 5 2 ([0, 1, 2] : List Int) 26 10) (ext0 10 24 5 2 ([0, 1, 2] : List Int) 26 26) (ext0 10 24 5 2 ([0, 1, 2] : List Int) 26 5) else 0) = 4 by decide +kernel) h19⟩
  refine ⟨rfl, rfl, rfl, rfl, by decide +kernel, rfl, rfl, rfl, rfl, (decide (lokL 10 24 5 2 ([0, 1, 2] : List Int) ([0, 1, 2] : List Int) 17)), decide_eq_true_iff, rfl, rfl, false, by simp, ⟨by decide +kernel, by decide +kernel, by decide +kernel, by decide +kernel, by decide +kernel, by decide +kernel⟩, fun h20 => ?_, fun h20 => absurd (show ((lokW 10 24 5 2 ([0, 1, 2] : List Int) ([0, 1, 2] : List Int) 17) = ([0] : List Int) ∧ (lokT 10 24 5 2 ([0, 1, 2] : List Int) ([0, 1, 2] : List Int) 17) = ([0] : List Int) ∧ (lokR 10 24 5 2 ([0, 1, 2] : List Int) ([0, 1, 2] : List Int) 17) = ([]) ∧ (lokM 10 24 5 2 ([0, 1, 2] : List Int) ([0, 1, 2] : List Int) 17) = 1 ∧ (lokY 10 24 5 2 ([0, 1, 2] : List Int) ([0, 1, 2] : List Int) 17) = 2 ∧ (((decide (lokL 10 24 5 2 ([0, 1, 2] : List Int) ([0, 1, 2] : List Int) 17)) = true) ↔ (false = true))) by decide +kernel) h20⟩
  refine ⟨rfl, rfl, rfl, (decide (lokL 10 24 5 2 ([0, 1, 2] : List Int) ([2] : List Int) 25)), decide_eq_true_iff, rfl, rfl, false, by simp, ⟨by decide +kernel, by decide +kernel, by decide +kernel, by decide +kernel, by decide +kernel, by decide +kernel⟩, fun h21 => ?_, fun h21 => absurd (show (extE 10 24 5 2 ([0, 1, 2] : List Int) 24) = 4 by decide +kernel) h21⟩
  refine ⟨fun h22 => ?_, fun h22 => absurd (show (chkL 10 24 5 2 ([0, 1, 2] : List Int)) = 0 by decide +kernel) h22⟩
  refine ⟨fun h23 => ?_, fun h23 => absurd (show ((lokW 10 24 5 2 ([0, 1, 2] : List Int) ([2] : List Int) 25) = ([2] : List Int) ∧ (lokT 10 24 5 2 ([0, 1, 2] : List Int) ([2] : List Int) 25) = ([]) ∧ (lokR 10 24 5 2 ([0, 1, 2] : List Int) ([2] : List Int) 25) = ([]) ∧ (lokM 10 24 5 2 ([0, 1, 2] : List Int) ([2] : List Int) 25) = (-1) ∧ (lokY 10 24 5 2 ([0, 1, 2] : List Int) ([2] : List Int) 25) = (-1) ∧ (((decide (lokL 10 24 5 2 ([0, 1, 2] : List Int) ([2] : List Int) 25)) = true) ↔ (false = true))) by decide +kernel) h23⟩
  refine ⟨rfl, ⟨by decide +kernel, by decide +kernel⟩, fun h24 => ?_, fun h24 => absurd (show (telL 10 24 5 2 ([0, 1, 2] : List Int) 0 ([(0, 12, ()), (1, 21, ())] : List (Int × (Int × Unit)))) = ([1] : List Int) by decide +kernel) h24⟩
  refine ⟨fun h25 => ?_, fun h25 => absurd (show (((telL 10 24 5 2 ([0, 1, 2] : List Int) 0 ([(0, 12, ()), (1, 22, ())] : List (Int × (Int × Unit)))).length : Nat) : Int) = 0 by decide +kernel) h25⟩
  refine ⟨rfl, rfl, rfl, ⟨by decide +kernel, by decide +kernel⟩, fun h26 => ?_, fun h26 => absurd (show (telL 10 24 5 2 ([0, 1, 2] : List Int) 4 ([(0, 12, ()), (1, 22, ())] : List (Int × (Int × Unit)))) = ([0, 1, 2] : List Int) by decide +kernel) h26⟩
  refine ⟨fun h27 => ?_, fun h27 => absurd (show (senL 10 24 5 2 ([0, 1, 2] : List Int) ([(0, 12, ()), (1, 22, ())] : List (Int × (Int × Unit))) 2) = 2 by decide +kernel) h27⟩
  refine ⟨rfl, rfl, ⟨by decide +kernel, by decide +kernel⟩, fun h28 => ?_, fun h28 => absurd (show (lstL 10 24 5 2 ([0, 1, 2] : List Int) 0 ([(0, 12, ()), (1, 30, ()), (1, 13, ()), (2, 21, ())] : List (Int × (Int × Unit)))) = ([0, 2] : List Int) by decide +kernel) h28⟩
  refine ⟨fun h29 => ?_, fun h29 => absurd (show safL 10 24 5 2 ([0, 1, 2] : List Int) 0 12 1 = true by decide +kernel) h29⟩
  exact ⟨rfl, rfl, congrArg V.b (propext ⟨fun _ => trivial, fun _ => by decide +kernel⟩), rfl⟩
def CSan : List (Nat × Con) := (17, pureC [] sSan) :: CExa
theorem kSan : Known Try.prog (En CSan tys [] QAt) := kExa.add Try.func17 Try.call17 [.k] fun ds p v bs h hp => by
  unfold sSan at h
  split at h <;> simp only [Option.some.injEq, Prod.mk.injEq, reduceCtorEq] at h
  obtain ⟨rfl, rfl, rfl⟩ := h
  exact bSan 
end Go.Proofs.Ytgljcfnplkcfhaa.S29

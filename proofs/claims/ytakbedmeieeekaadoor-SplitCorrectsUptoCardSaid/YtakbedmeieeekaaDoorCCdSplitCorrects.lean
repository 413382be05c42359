/- Texts of this claim: S26.D7, S26.CdSplitCorrects. -/
import Derived.Test.YtakbedmeieeekaaDoorS4
import Derived.Test.YtakbedmeieeekaaDoorS5
set_option linter.unusedVariables false
set_option linter.unusedSimpArgs false
namespace Go.Proofs.YtakbedmeieeekaaDoor.S26
open Go Go.Proofs.YtakbedmeieeekaaDoor.Vc Go.Proofs
set_option maxRecDepth 100000
set_option linter.unusedVariables false

def sLCrr : List V → Option (Prop × V × List Blk)
  | [.agg [.str sec, .int .i64 nd, .sl false (.int .i64) hs, .str nz], .sl false (.cons (.int .i64) (.cons .str .nil)) wi, .u8 wr] => some (sec.length ≤ 1048576 ∧ hs.length ≤ 1048576 ∧ nz.length ≤ 1048576 ∧ wi.length ≤ 1048576 ∧ (∀ s ∈ wi, s.2.1.length ≤ 1048576), .b True, [])
  | _ => none
set_option maxHeartbeats 4000000 in
theorem bLCrr (sec : List UInt8) (nd : Int) (hs : List Int) (nz : List UInt8) (wi : List (Int × (List UInt8 × Unit))) (wr : UInt8) (hp0 : sec.length ≤ 1048576) (hp1 : hs.length ≤ 1048576) (hp2 : nz.length ≤ 1048576) (hp3 : wi.length ≤ 1048576) (hp4 : (∀ s ∈ wi, s.2.1.length ≤ 1048576)) : bodyP (En CSan tys G6 QCo2 [1000002]) Tryd.f8 [.k] [.agg [.str sec, .int .i64 nd, .sl false (.int .i64) hs, .str nz], .sl false (.cons (.int .i64) (.cons .str .nil)) wi, .u8 wr] (.b True) [] := by
  refine ⟨rfl, rfl, ⟨by show sec.length ≤ 1048576; first | omega | assumption, by show hs.length ≤ 1048576; first | omega | assumption⟩, fun h0 => ?_, fun h0 => ?_⟩
  · replace h0 : ¬ (¬ (smlP sec hs 30)) := h0
    refine ⟨fun h1 => ?_, fun h1 => ?_⟩
    · replace h1 : ¬ (30 < (sec.length : Int)) := h1
      refine ⟨fun h2 => ?_, fun h2 => ?_⟩
      · replace h2 : 20 < (wi.length : Int) := h2
        refine ⟨trivial, ?_⟩
        exact ⟨rfl, rfl, rfl, rfl⟩
      · replace h2 : ¬ (20 < (wi.length : Int)) := h2
        refine ⟨rfl, ⟨by show sec.length ≤ 1048576; first | omega | assumption, by show hs.length ≤ 1048576; first | omega | assumption, by show nz.length ≤ 1048576; first | omega | assumption⟩, fun h3 => ?_, fun h3 => ?_⟩
        · replace h3 : (splE sec nd hs nz) ≠ 0 := h3
          refine ⟨trivial, ?_⟩
          exact ⟨rfl, rfl, rfl, rfl⟩
        · replace h3 : ¬ ((splE sec nd hs nz) ≠ 0) := h3
          have hS := spl0 (Classical.not_not.1 h3)
          have hll := hS.llen
          have hl12 := hs_12 hS.ok
          have hn1 := hS.n1
          have hn12 := hS.n12
          refine .inl ⟨⟨by show (0 : Int) ≤ (wr.toNat : Int); omega, by show (0 : Int) < 6; omega⟩, ?_⟩
          refine ⟨⟨rfl, rfl⟩, by show ([] : List (Int × (List UInt8 × Unit))).length + (splL sec nd hs nz).length ≤ 1000000000; simp only [List.length_cons, List.length_nil]; omega, 3, [(3, .k), (7, .k), (9, .k), (10, .k), (57, .k), (58, .k), (59, .k)], fun nM vs H => ∃ (k : Nat), k ≤ wi.length ∧ nM = wi.length - k ∧ vs = [.ptr 0 1 0 0, .own (.cons (.int .i64) (.cons .str .nil)) 1, .int .i64 ((wr.toNat : Int) % 6), .own (.cons (.int .i64) (.cons .str .nil)) 2, .sl false (.cons (.int .i64) (.cons .str .nil)) wi, .int .i64 (wi.length : Int), .int .i64 (k : Int)] ∧ H = [.cells [.str sec, .int .i64 nd, .sl false (.int .i64) hs, .str nz], .row true (.cons (.int .i64) (.cons .str .nil)) (splL sec nd hs nz), .row true (.cons (.int .i64) (.cons .str .nil)) (rpW sec.length (splL sec nd hs nz) (wi.take k))], ⟨rfl, wi.length, 0, by omega, by omega, rfl, rfl⟩, ?_⟩
          rintro nM vs H ⟨k, hc1_0, rfl, rfl, rfl⟩
          have hlk := hS.like (wi.take k)
          have hgl := hlk.len
          refine ⟨fun h4 => ?_, fun h4 => ?_⟩
          · replace h4 : (k : Int) < (wi.length : Int) := h4
            have hk : k < wi.length := by omega
            refine ⟨⟨by show (0 : Int) ≤ (k : Int); omega, by show (k : Int) < (wi.length : Int); omega⟩, ⟨rfl, rfl, rfl, Nat.le_of_ble_eq_true rfl⟩, 4, [(3, .k), (7, .k), (9, .k), (10, .k), (12, .k), (57, .k), (58, .k), (59, .k), (64, .k), (65, .k)], fun nM vs H => ∃ (q : Nat), q ≤ (rpW sec.length (splL sec nd hs nz) (wi.take k)).length ∧ nM = (rpW sec.length (splL sec nd hs nz) (wi.take k)).length - q ∧ vs = [.ptr 0 1 0 0, .own (.cons (.int .i64) (.cons .str .nil)) 1, .int .i64 ((wr.toNat : Int) % 6), .own (.cons (.int .i64) (.cons .str .nil)) 2, .ptr 3 1 0 0, .sl false (.cons (.int .i64) (.cons .str .nil)) wi, .int .i64 (wi.length : Int), .int .i64 (k : Int), .int .i64 (((rpW sec.length (splL sec nd hs nz) (wi.take k)).length : Nat) : Int), .int .i64 (q : Int)] ∧ H = [.cells [.str sec, .int .i64 nd, .sl false (.int .i64) hs, .str nz], .row true (.cons (.int .i64) (.cons .str .nil)) (splL sec nd hs nz), .row true (.cons (.int .i64) (.cons .str .nil)) (rpK sec.length (wi.getD k (0, [], ())) (rpW sec.length (splL sec nd hs nz) (wi.take k)) q), .cells [.int .i64 ((wi.getD k (0, ([], ()))).1), .str (((wi.getD k (0, ([], ()))).2).1)]], ⟨rfl, (rpW sec.length (splL sec nd hs nz) (wi.take k)).length, 0, by omega, by omega, rfl, rfl⟩, ?_⟩
            rintro nM vs H ⟨q, hc2_0, rfl, rfl, rfl⟩
            have hrl := rpK_len sec.length (wi.getD k (0, [], ())) (rpW sec.length (splL sec nd hs nz) (wi.take k)) q
            refine ⟨fun h5 => ?_, fun h5 => ?_⟩
            · replace h5 : (q : Int) < (((rpW sec.length (splL sec nd hs nz) (wi.take k)).length : Nat) : Int) := h5
              have hq : q < (rpW sec.length (splL sec nd hs nz) (wi.take k)).length := by omega
              have hg := rpK_get (n := sec.length) (s := wi.getD k (0, [], ())) hq
              refine ⟨by kernel_rfl, ⟨by show (0 : Int) ≤ (q : Int); omega, by show (q : Int) < ((rpK sec.length (wi.getD k (0, [], ())) (rpW sec.length (splL sec nd hs nz) (wi.take k)) q).length : Int); omega⟩, fun h6 => ?_, fun h6 => ?_⟩
              · replace h6 : (((rpK sec.length (wi.getD k (0, [], ())) (rpW sec.length (splL sec nd hs nz) (wi.take k)) q).getD q (0, ([], ()))).1) = ((wi.getD k (0, ([], ()))).1) := h6
                refine ⟨fun h7 => ?_, fun h7 => absurd (show (((rpK sec.length (wi.getD k (0, [], ())) (rpW sec.length (splL sec nd hs nz) (wi.take k)) q).getD q (0, ([], ()))).1) = ((wi.getD k (0, ([], ()))).1) by first | omega | assumption | simp_all) h7⟩
                refine ⟨fun h8 => ?_, fun h8 => absurd (show (((rpK sec.length (wi.getD k (0, [], ())) (rpW sec.length (splL sec nd hs nz) (wi.take k)) q).getD q (0, ([], ()))).1) = ((wi.getD k (0, ([], ()))).1) by first | omega | assumption | simp_all) h8⟩
                refine ⟨fun h9 => ?_, fun h9 => absurd (show (((rpK sec.length (wi.getD k (0, [], ())) (rpW sec.length (splL sec nd hs nz) (wi.take k)) q).getD q (0, ([], ()))).1) = ((wi.getD k (0, ([], ()))).1) by first | omega | assumption | simp_all) h9⟩
                refine ⟨fun h10 => ?_, fun h10 => absurd (show (((rpK sec.length (wi.getD k (0, [], ())) (rpW sec.length (splL sec nd hs nz) (wi.take k)) q).getD q (0, ([], ()))).1) = ((wi.getD k (0, ([], ()))).1) by first | omega | assumption | simp_all) h10⟩
                refine ⟨fun h11 => ?_, fun h11 => absurd (show (((rpK sec.length (wi.getD k (0, [], ())) (rpW sec.length (splL sec nd hs nz) (wi.take k)) q).getD q (0, ([], ()))).1) = ((wi.getD k (0, ([], ()))).1) by first | omega | assumption | simp_all) h11⟩
                refine ⟨fun h12 => ?_, fun h12 => absurd (show (((rpK sec.length (wi.getD k (0, [], ())) (rpW sec.length (splL sec nd hs nz) (wi.take k)) q).getD q (0, ([], ()))).1) = ((wi.getD k (0, ([], ()))).1) by first | omega | assumption | simp_all) h12⟩
                refine ⟨fun h13 => ?_, fun h13 => absurd (show (((rpK sec.length (wi.getD k (0, [], ())) (rpW sec.length (splL sec nd hs nz) (wi.take k)) q).getD q (0, ([], ()))).1) = ((wi.getD k (0, ([], ()))).1) by first | omega | assumption | simp_all) h13⟩
                refine ⟨fun h14 => ?_, fun h14 => ?_⟩
                · replace h14 : (((((wi.getD k (0, ([], ()))).2).1).length : Nat) : Int) = (sec.length : Int) := h14
                  have hys := rpK_yes (n := sec.length) (s := wi.getD k (0, [], ())) hq (by rw [← hg]; exact h6) (by omega)
                  refine ⟨⟨by show (0 : Int) ≤ (q : Int); omega, by show (q : Int) < ((rpK sec.length (wi.getD k (0, [], ())) (rpW sec.length (splL sec nd hs nz) (wi.take k)) q).length : Int); omega⟩, rfl, ⟨fun h => (by first | rfl | cases h), rfl, rfl⟩, ⟨by show (-9223372036854775808 : Int) ≤ ((q : Int) + 1); omega, by show ((q : Int) + 1) ≤ (9223372036854775807 : Int); omega⟩, ?_⟩
                  first
                  | exact ⟨rfl, (rpW sec.length (splL sec nd hs nz) (wi.take k)).length - (q + 1), by omega, q + 1, by omega, rfl, rfl, by rw [← hys]; rfl⟩
                  | exact ⟨rfl, (rpW sec.length (splL sec nd hs nz) (wi.take k)).length - (q + 1), by omega, q + 1, by omega, rfl, rfl, by rw [hno]; rfl⟩
                · replace h14 : ¬ ((((((wi.getD k (0, ([], ()))).2).1).length : Nat) : Int) = (sec.length : Int)) := h14
                  have hno := rpK_no (n := sec.length) (s := wi.getD k (0, [], ())) hq (fun e => h14 (by rw [e.2]))
                  refine ⟨⟨by show (-9223372036854775808 : Int) ≤ ((q : Int) + 1); omega, by show ((q : Int) + 1) ≤ (9223372036854775807 : Int); omega⟩, ?_⟩
                  first
                  | exact ⟨rfl, (rpW sec.length (splL sec nd hs nz) (wi.take k)).length - (q + 1), by omega, q + 1, by omega, rfl, rfl, by rw [← hys]; rfl⟩
                  | exact ⟨rfl, (rpW sec.length (splL sec nd hs nz) (wi.take k)).length - (q + 1), by omega, q + 1, by omega, rfl, rfl, by rw [hno]; rfl⟩
              · replace h6 : ¬ ((((rpK sec.length (wi.getD k (0, [], ())) (rpW sec.length (splL sec nd hs nz) (wi.take k)) q).getD q (0, ([], ()))).1) = ((wi.getD k (0, ([], ()))).1)) := h6
                have hno := rpK_no (n := sec.length) (s := wi.getD k (0, [], ())) hq (fun e => h6 (by rw [hg]; exact e.1))
                refine ⟨fun h15 => absurd h15 (show ¬ ((((rpK sec.length (wi.getD k (0, [], ())) (rpW sec.length (splL sec nd hs nz) (wi.take k)) q).getD q (0, ([], ()))).1) = ((wi.getD k (0, ([], ()))).1)) by first | omega | assumption | simp_all), fun h15 => ?_⟩
                refine ⟨fun h16 => absurd h16 (show ¬ ((((rpK sec.length (wi.getD k (0, [], ())) (rpW sec.length (splL sec nd hs nz) (wi.take k)) q).getD q (0, ([], ()))).1) = ((wi.getD k (0, ([], ()))).1)) by first | omega | assumption | simp_all), fun h16 => ?_⟩
                refine ⟨fun h17 => absurd h17 (show ¬ ((((rpK sec.length (wi.getD k (0, [], ())) (rpW sec.length (splL sec nd hs nz) (wi.take k)) q).getD q (0, ([], ()))).1) = ((wi.getD k (0, ([], ()))).1)) by first | omega | assumption | simp_all), fun h17 => ?_⟩
                refine ⟨fun h18 => absurd h18 (show ¬ ((((rpK sec.length (wi.getD k (0, [], ())) (rpW sec.length (splL sec nd hs nz) (wi.take k)) q).getD q (0, ([], ()))).1) = ((wi.getD k (0, ([], ()))).1)) by first | omega | assumption | simp_all), fun h18 => ?_⟩
                refine ⟨fun h19 => absurd h19 (show ¬ ((((rpK sec.length (wi.getD k (0, [], ())) (rpW sec.length (splL sec nd hs nz) (wi.take k)) q).getD q (0, ([], ()))).1) = ((wi.getD k (0, ([], ()))).1)) by first | omega | assumption | simp_all), fun h19 => ?_⟩
                refine ⟨fun h20 => absurd h20 (show ¬ ((((rpK sec.length (wi.getD k (0, [], ())) (rpW sec.length (splL sec nd hs nz) (wi.take k)) q).getD q (0, ([], ()))).1) = ((wi.getD k (0, ([], ()))).1)) by first | omega | assumption | simp_all), fun h20 => ?_⟩
                refine ⟨fun h21 => absurd h21 (show ¬ ((((rpK sec.length (wi.getD k (0, [], ())) (rpW sec.length (splL sec nd hs nz) (wi.take k)) q).getD q (0, ([], ()))).1) = ((wi.getD k (0, ([], ()))).1)) by first | omega | assumption | simp_all), fun h21 => ?_⟩
                refine ⟨⟨by show (-9223372036854775808 : Int) ≤ ((q : Int) + 1); omega, by show ((q : Int) + 1) ≤ (9223372036854775807 : Int); omega⟩, ?_⟩
                first
                | exact ⟨rfl, (rpW sec.length (splL sec nd hs nz) (wi.take k)).length - (q + 1), by omega, q + 1, by omega, rfl, rfl, by rw [← hys]; rfl⟩
                | exact ⟨rfl, (rpW sec.length (splL sec nd hs nz) (wi.take k)).length - (q + 1), by omega, q + 1, by omega, rfl, rfl, by rw [hno]; rfl⟩
            · replace h5 : ¬ ((q : Int) < (((rpW sec.length (splL sec nd hs nz) (wi.take k)).length : Nat) : Int)) := h5
              have hnx : rpW sec.length (splL sec nd hs nz) (wi.take (k + 1)) = (rpK sec.length (wi.getD k (0, [], ())) (rpW sec.length (splL sec nd hs nz) (wi.take k)) q) := by rw [rpW_snoc hk, ← rpK_all (k := q) (by omega)]
              refine ⟨⟨by show (-9223372036854775808 : Int) ≤ ((k : Int) + 1); omega, by show ((k : Int) + 1) ≤ (9223372036854775807 : Int); omega⟩, ?_⟩
              exact ⟨rfl, wi.length - (k + 1), by omega, k + 1, by omega, rfl, rfl, by rw [hnx]; rfl⟩
          · replace h4 : ¬ ((k : Int) < (wi.length : Int)) := h4
            refine ⟨3, [(3, .k), (7, .k), (9, .k), (10, .k), (14, .o (.int .i64)), (92, .k), (93, .k)], fun nM vs H => ∃ (i : Nat), i ≤ hs.length ∧ nM = hs.length - i ∧ vs = [.ptr 0 1 0 0, .own (.cons (.int .i64) (.cons .str .nil)) 1, .int .i64 ((wr.toNat : Int) % 6), .own (.cons (.int .i64) (.cons .str .nil)) 2, .own (.int .i64) 3, .int .i64 (((rpW sec.length (splL sec nd hs nz) (wi.take k)).length : Nat) : Int), .int .i64 (i : Int)] ∧ H = [.cells [.str sec, .int .i64 nd, .sl false (.int .i64) hs, .str nz], .row true (.cons (.int .i64) (.cons .str .nil)) (splL sec nd hs nz), .row true (.cons (.int .i64) (.cons .str .nil)) (rpW sec.length (splL sec nd hs nz) (wi.take k)), .row true (.int .i64) (odK (rpW sec.length (splL sec nd hs nz) (wi.take k)) (splL sec nd hs nz) i)], ⟨rfl, hs.length, 0, by omega, by omega, rfl, rfl⟩, ?_⟩
            rintro nM vs H ⟨i, hc3_0, rfl, rfl, rfl⟩
            have hdl := odK_len (rpW sec.length (splL sec nd hs nz) (wi.take k)) (splL sec nd hs nz) i
            refine ⟨fun h22 => ?_, fun h22 => ?_⟩
            · replace h22 : (i : Int) < (((rpW sec.length (splL sec nd hs nz) (wi.take k)).length : Nat) : Int) := h22
              have hi : i < hs.length := by omega
              refine ⟨by kernel_rfl, ⟨by show (0 : Int) ≤ (i : Int); omega, by show (i : Int) < ((rpW sec.length (splL sec nd hs nz) (wi.take k)).length : Int); omega⟩, ⟨by show (0 : Int) ≤ (i : Int); omega, by show (i : Int) < ((splL sec nd hs nz).length : Int); omega⟩, fun h23 => ?_, fun h23 => ?_⟩
              · replace h23 : ¬ ((((rpW sec.length (splL sec nd hs nz) (wi.take k)).getD i (0, ([], ()))).1) = (((splL sec nd hs nz).getD i (0, ([], ()))).1) ∧ (((((rpW sec.length (splL sec nd hs nz) (wi.take k)).getD i (0, ([], ()))).2).1) = ((((splL sec nd hs nz).getD i (0, ([], ()))).2).1) ∧ True)) := h23
                have hne := sh_ne.2 h23
                refine ⟨⟨by show (0 : Int) ≤ (i : Int); omega, by show (i : Int) < ((rpW sec.length (splL sec nd hs nz) (wi.take k)).length : Int); omega⟩, rfl, ⟨rfl, rfl⟩, by show (odK (rpW sec.length (splL sec nd hs nz) (wi.take k)) (splL sec nd hs nz) i).length + ([((rpW sec.length (splL sec nd hs nz) (wi.take k)).getD i (0, ([], ()))).1] : List Int).length ≤ 1000000000; simp only [List.length_cons, List.length_nil]; omega, ⟨by show (-9223372036854775808 : Int) ≤ ((i : Int) + 1); omega, by show ((i : Int) + 1) ≤ (9223372036854775807 : Int); omega⟩, ?_⟩
                first
                | exact ⟨rfl, hs.length - (i + 1), by omega, i + 1, by omega, rfl, rfl, by rw [odK_yes hne]; rfl⟩
                | exact ⟨rfl, hs.length - (i + 1), by omega, i + 1, by omega, rfl, rfl, by rw [odK_no hne]; rfl⟩
              · replace h23 : ¬ (¬ ((((rpW sec.length (splL sec nd hs nz) (wi.take k)).getD i (0, ([], ()))).1) = (((splL sec nd hs nz).getD i (0, ([], ()))).1) ∧ (((((rpW sec.length (splL sec nd hs nz) (wi.take k)).getD i (0, ([], ()))).2).1) = ((((splL sec nd hs nz).getD i (0, ([], ()))).2).1) ∧ True))) := h23
                have hne := fun e => h23 (sh_ne.1 e)
                refine ⟨⟨by show (-9223372036854775808 : Int) ≤ ((i : Int) + 1); omega, by show ((i : Int) + 1) ≤ (9223372036854775807 : Int); omega⟩, ?_⟩
                first
                | exact ⟨rfl, hs.length - (i + 1), by omega, i + 1, by omega, rfl, rfl, by rw [odK_yes hne]; rfl⟩
                | exact ⟨rfl, hs.length - (i + 1), by omega, i + 1, by omega, rfl, rfl, by rw [odK_no hne]; rfl⟩
            · replace h22 : ¬ ((i : Int) < (((rpW sec.length (splL sec nd hs nz) (wi.take k)).length : Nat) : Int)) := h22
              have hi : hs.length = i := by omega
              have hrl := rbH_len (rpW sec.length (splL sec nd hs nz) (wi.take k)) nd ((wr.toNat : Int) % 6)
              refine ⟨fun h24 => ?_, fun h24 => ?_⟩
              · replace h24 : ¬ (((wr.toNat : Int) % 6) < (((odK (rpW sec.length (splL sec nd hs nz) (wi.take k)) (splL sec nd hs nz) i).length : Nat) : Int)) := h24
                refine ⟨⟨by show (-9223372036854775808 : Int) ≤ (2 * ((wr.toNat : Int) % 6)); omega, by show (2 * ((wr.toNat : Int) % 6)) ≤ (9223372036854775807 : Int); omega⟩, ⟨by show (-9223372036854775808 : Int) ≤ (nd + (2 * ((wr.toNat : Int) % 6))); omega, by show (nd + (2 * ((wr.toNat : Int) % 6))) ≤ (9223372036854775807 : Int); omega⟩, fun h25 => ?_, fun h25 => ?_⟩
                · replace h25 : (((splL sec nd hs nz).length : Nat) : Int) < (nd + (2 * ((wr.toNat : Int) % 6))) := h25
                  refine ⟨trivial, ?_⟩
                  exact ⟨rfl, rfl, rfl, rfl⟩
                · replace h25 : ¬ ((((splL sec nd hs nz).length : Nat) : Int) < (nd + (2 * ((wr.toNat : Int) % 6)))) := h25
                  obtain ⟨r1, r2, r3⟩ := crr hS hlk (w := ((wr.toNat : Int) % 6)) (by omega) (by omega) (by rw [hi]; omega)
                  rw [hi] at r3
                  have hol : (rbH (rpW sec.length (splL sec nd hs nz) (wi.take k)) nd ((wr.toNat : Int) % 6)).length = (odK (rpW sec.length (splL sec nd hs nz) (wi.take k)) (splL sec nd hs nz) i).length := by rw [r3]
                  refine ⟨rfl, rfl, by show (rpW sec.length (splL sec nd hs nz) (wi.take k)).length ≤ 1048576; first | omega | assumption | (simp only [List.length_cons, List.length_nil, List.length_append, List.length_take, List.length_drop, List.length_set, List.length_replicate]; omega), fun h26 => ?_, fun h26 => ?_⟩
                  · replace h26 : ¬ ((rbE (rpW sec.length (splL sec nd hs nz) (wi.take k)) nd ((wr.toNat : Int) % 6)) ≠ 0) := h26
                    refine ⟨fun h27 => ?_, fun h27 => ?_⟩
                    · replace h27 : ¬ ((rbS (rpW sec.length (splL sec nd hs nz) (wi.take k)) nd ((wr.toNat : Int) % 6)) ≠ sec) := h27
                      refine ⟨fun h28 => ?_, fun h28 => ?_⟩
                      · replace h28 : (((rbH (rpW sec.length (splL sec nd hs nz) (wi.take k)) nd ((wr.toNat : Int) % 6)).length : Nat) : Int) ≠ (((odK (rpW sec.length (splL sec nd hs nz) (wi.take k)) (splL sec nd hs nz) i).length : Nat) : Int) := h28
                        omega
                      · replace h28 : ¬ ((((rbH (rpW sec.length (splL sec nd hs nz) (wi.take k)) nd ((wr.toNat : Int) % 6)).length : Nat) : Int) ≠ (((odK (rpW sec.length (splL sec nd hs nz) (wi.take k)) (splL sec nd hs nz) i).length : Nat) : Int)) := h28
                        refine ⟨5, [(14, .k), (153, .k), (154, .k), (155, .k)], fun nM vs H => ∃ (j : Nat), j ≤ (odK (rpW sec.length (splL sec nd hs nz) (wi.take k)) (splL sec nd hs nz) i).length ∧ nM = (odK (rpW sec.length (splL sec nd hs nz) (wi.take k)) (splL sec nd hs nz) i).length - j ∧ vs = [.own (.int .i64) 3, .own (.int .i64) 4, .int .i64 (((rbH (rpW sec.length (splL sec nd hs nz) (wi.take k)) nd ((wr.toNat : Int) % 6)).length : Nat) : Int), .int .i64 (j : Int)] ∧ H = [.cells [.str sec, .int .i64 nd, .sl false (.int .i64) hs, .str nz], .row true (.cons (.int .i64) (.cons .str .nil)) (splL sec nd hs nz), .row true (.cons (.int .i64) (.cons .str .nil)) (rpW sec.length (splL sec nd hs nz) (wi.take k)), .row true (.int .i64) (odK (rpW sec.length (splL sec nd hs nz) (wi.take k)) (splL sec nd hs nz) i), .row true (.int .i64) (rbH (rpW sec.length (splL sec nd hs nz) (wi.take k)) nd ((wr.toNat : Int) % 6))], ⟨rfl, (odK (rpW sec.length (splL sec nd hs nz) (wi.take k)) (splL sec nd hs nz) i).length, 0, by omega, by omega, rfl, rfl⟩, ?_⟩
                        rintro nM vs H ⟨j, hc4_0, rfl, rfl, rfl⟩
                        refine ⟨fun h29 => ?_, fun h29 => ?_⟩
                        · replace h29 : (j : Int) < (((rbH (rpW sec.length (splL sec nd hs nz) (wi.take k)) nd ((wr.toNat : Int) % 6)).length : Nat) : Int) := h29
                          refine ⟨⟨by show (0 : Int) ≤ (j : Int); omega, by show (j : Int) < ((rbH (rpW sec.length (splL sec nd hs nz) (wi.take k)) nd ((wr.toNat : Int) % 6)).length : Int); omega⟩, ⟨by show (0 : Int) ≤ (j : Int); omega, by show (j : Int) < ((odK (rpW sec.length (splL sec nd hs nz) (wi.take k)) (splL sec nd hs nz) i).length : Int); omega⟩, fun h30 => ?_, fun h30 => ?_⟩
                          · replace h30 : ((rbH (rpW sec.length (splL sec nd hs nz) (wi.take k)) nd ((wr.toNat : Int) % 6)).getD j 0) ≠ ((odK (rpW sec.length (splL sec nd hs nz) (wi.take k)) (splL sec nd hs nz) i).getD j 0) := h30
                            exact absurd (by rw [r3]) h30
                          · replace h30 : ¬ (((rbH (rpW sec.length (splL sec nd hs nz) (wi.take k)) nd ((wr.toNat : Int) % 6)).getD j 0) ≠ ((odK (rpW sec.length (splL sec nd hs nz) (wi.take k)) (splL sec nd hs nz) i).getD j 0)) := h30
                            refine ⟨⟨by show (-9223372036854775808 : Int) ≤ ((j : Int) + 1); omega, by show ((j : Int) + 1) ≤ (9223372036854775807 : Int); omega⟩, ?_⟩
                            exact ⟨rfl, (odK (rpW sec.length (splL sec nd hs nz) (wi.take k)) (splL sec nd hs nz) i).length - (j + 1), by omega, j + 1, by omega, rfl, rfl, rfl⟩
                        · replace h29 : ¬ ((j : Int) < (((rbH (rpW sec.length (splL sec nd hs nz) (wi.take k)) nd ((wr.toNat : Int) % 6)).length : Nat) : Int)) := h29
                          refine ⟨trivial, ?_⟩
                          exact ⟨rfl, rfl, rfl, rfl⟩
                    · replace h27 : (rbS (rpW sec.length (splL sec nd hs nz) (wi.take k)) nd ((wr.toNat : Int) % 6)) ≠ sec := h27
                      exact absurd r2 h27
                  · replace h26 : (rbE (rpW sec.length (splL sec nd hs nz) (wi.take k)) nd ((wr.toNat : Int) % 6)) ≠ 0 := h26
                    exact absurd r1 h26
              · replace h24 : ((wr.toNat : Int) % 6) < (((odK (rpW sec.length (splL sec nd hs nz) (wi.take k)) (splL sec nd hs nz) i).length : Nat) : Int) := h24
                refine ⟨trivial, ?_⟩
                exact ⟨rfl, rfl, rfl, rfl⟩
    · replace h1 : 30 < (sec.length : Int) := h1
      refine ⟨trivial, ?_⟩
      exact ⟨rfl, rfl, rfl, rfl⟩
  · replace h0 : ¬ (smlP sec hs 30) := h0
    refine ⟨trivial, ?_⟩
    exact ⟨rfl, rfl, rfl, rfl⟩
end Go.Proofs.YtakbedmeieeekaaDoor.S26

namespace Go.Proofs.YtakbedmeieeekaaDoor
open Go Go.Proofs.YtakbedmeieeekaaDoor.Vc Go.Proofs Go.Proofs.YtakbedmeieeekaaDoor.S26 Go.ChangeShapes Go.WideShapes Go.ChangeAt Go.RowKit
set_option maxRecDepth 100000
set_option linter.unusedVariables false
namespace Cd.splitCorrects
open Go.Proofs.YtakbedmeieeekaaDoor.Cd
theorem deep0 : Deep Tryd.prog (.cons .str (.cons (.int .i64) (.cons (.sl (.int .i64)) (.cons .str .nil)))) (.inl 24) := ⟨_, _, _, Tryd.underlying24, rfl, by kernel_rfl, by kernel_rfl, by kernel_rfl, Tryd.underlying9, ⟨by kernel_rfl, by kernel_rfl, Tryd.underlying3, ⟨by kernel_rfl, by kernel_rfl, ⟨3, Tryd.underlying22, by kernel_rfl, by decide, Tryd.underlying3⟩, ⟨by kernel_rfl, by kernel_rfl, Tryd.underlying9, trivial⟩⟩⟩⟩
theorem rec0 : Tryd.prog.readableRec 24 = true := by kernel_rfl
theorem lt0 : 24 < Tryd.prog.types.size := of_decide_eq_true (by kernel_rfl)
theorem deep1 : Deep Tryd.prog (.sl (.cons (.int .i64) (.cons .str .nil))) (.inl 27) := ⟨44, Tryd.underlying27, by kernel_rfl, by decide, ⟨_, _, _, Tryd.underlying44, rfl, by kernel_rfl, by kernel_rfl, by kernel_rfl, Tryd.underlying3, ⟨by kernel_rfl, by kernel_rfl, Tryd.underlying9, trivial⟩⟩⟩
theorem rec1 : Tryd.prog.readableRec 27 = true := by kernel_rfl
theorem lt1 : 27 < Tryd.prog.types.size := of_decide_eq_true (by kernel_rfl)
theorem deep2 : Deep Tryd.prog .u8 (.inl 5) := Tryd.underlying5
theorem rec2 : Tryd.prog.readableRec 5 = true := by kernel_rfl
theorem lt2 : 5 < Tryd.prog.types.size := of_decide_eq_true (by kernel_rfl)
theorem globs {W : World} (h : laidMetH Tryd.prog Rows.splitCorrectsUptoRow.laid W) : ∀ g x, lk G6 g = some x → VRel (c0 W) [] W x (.pointer (some ⟨g, 0, none⟩)) := fun g x hx => by
  have hg : Tryd.prog.globalNamed "quietus/gf.high" = some 0 := by kernel_rfl
  have ht : Lib.TabIs Tryd.prog W "quietus/gf.high" .u8 [0, 29, 58, 39, 116, 105, 78, 83, 232, 245, 210, 207, 156, 129, 166, 187] := Lib.tabIs_of_head (rest := []) hg (by kernel_rfl) Tryd.underlying131 Tryd.underlying5 (by kernel_rfl) (by kernel_rfl) h
  have key : ∀ i, i < 16 → ([0, 29, 58, 39, 116, 105, 78, 83, 232, 245, 210, 207, 156, 129, 166, 187] : List Int).getD i 0 = ((hi.getD i 0).toNat : Int) := by decide
  have hc : ∀ i, i < hi.length → W.cell? ⟨0, i, none⟩ = some (.int .u8 ((hi.getD i 0).toNat : Int)) := fun i hi' => by
    have := ht.cell hg i hi'
    rwa [key i hi'] at this
  unfold G6 lk at hx
  cases hb : Nat.beq 0 g with
  | false => rw [hb] at hx; simp [lk] at hx
  | true =>
    rw [hb] at hx
    simp only [cond_true, Option.some.injEq] at hx
    have := beq_ok hb
    subst this hx
    exact tab_ok (spot_none (hc 0 (by decide))).2 hc rfl
theorem contract (H : Type) (enc : TypeId × Value → H) (W : World) (base : Nat) (args : Array Value) (ds gs : List (DataW H)) (before : List MemPlace)
    (hval : ∀ (j : Nat) t v, Tryd.f8.params[j]? = some t → args[j]? = some v → Value.okWide Tryd.prog W .any base t v)
    (hW : DataW.Whole enc Tryd.prog Tryd.f8.params.toList Rows.splitCorrectsSpec.vars false W args.toList ds gs before) (hc : Rows.uptoSmall H (ds ++ gs) = true) (hL : laidMetH Tryd.prog Rows.splitCorrectsUptoRow.laid W) :
    Calls Tryd.prog 8 args W fun e W' => ∃ v, e = .returned v ∧ Rows.splitCorrectsSpec.post enc Tryd.prog Tryd.f8 false true false false W args v W' := by
  have hW' := hW
  obtain ⟨p, q, hA0, hV, rfl, hfz, hnd⟩ := hW
  have hA : DataW.TrodAll enc Tryd.prog W 0 (fun _ => true) true Tryd.f8.params.toList args.toList ds p := hA0
  rw [Tryd.params8] at hA hval
  obtain ⟨v0, vs0, d0, ds0, p0, q0, hargs, rfl, rfl, h0, r0⟩ := trodAll_cons hA
  obtain ⟨v1, vs1, d1, ds1, p1, q1, rfl, rfl, rfl, h1, r1⟩ := trodAll_cons r0
  obtain ⟨v2, vs2, d2, ds2, p2, q2, rfl, rfl, rfl, h2, r2⟩ := trodAll_cons r1
  obtain ⟨rfl, rfl, rfl⟩ := trodAll_nil r2
  obtain rfl : args = #[v0, v1, v2] := by cases args; simp_all
  obtain ⟨rfl, rfl⟩ := trodVars_none hV
  obtain ⟨x0, rel0, w0, wf0⟩ := arg_ok (bk := Rows.uptoBulk) bulk deep0 (hval 0 24 v0 rfl rfl) h0
  obtain ⟨x1, rel1, w1, wf1⟩ := arg_ok (bk := Rows.uptoBulk) bulk deep1 (hval 1 27 v1 rfl rfl) h1
  obtain ⟨x2, rel2, w2, wf2⟩ := arg_ok (bk := Rows.uptoBulk) bulk deep2 (hval 2 5 v2 rfl rfl) h2
  have hsum : Rows.uptoBulkAll [d0, d1, d2] ≤ 1048576 := by simpa [Rows.uptoSmall] using hc
  simp only [Rows.uptoBulkAll] at hsum
  have hlt : ∀ x ∈ p0 ++ p1 ++ p2, x.block < W.heap.size := fun x hx => by simpa using hW'.lt x (by simpa using hx)
  refine (law_ok (kSan.frz [1000002]) rfl Tryd.func8 (.cons _ _ _ _ rel0 (.cons _ _ _ _ rel1 (.cons _ _ _ _ rel2 (VRels.nil)))) (globs hL) (bLCrr x0.1 x0.2.1 x0.2.2.1 x0.2.2.2.1 x1 x2 (mxT (N := 1048576) (t := x0) (by omega)).1 (mxT (N := 1048576) (t := x0) (by omega)).2.1 (mxT (N := 1048576) (t := x0) (by omega)).2.2 (mxS (N := 1048576) (l := x1) (by omega)).1 (mxS (N := 1048576) (l := x1) (by omega)).2)).mono fun e W' ⟨he, hb⟩ => ?_
  subst he
  exact ⟨_, rfl, post_same (pa := (p0 ++ (p1 ++ (p2 ++ [])))) (pv := []) hW' (fun _ _ _ => trodAll_cons_mk (shut_bool Tryd.underlying4 _) trodAll_mk0) (fun sp hsp => trodAll_cons_mk (WideElems.Trod_stays laidOut rec0 lt0 h0 (fun x hx => hb.same (hlt x (by simp [hx]))) (fun x hx => hsp x (by simp [hx]))) (trodAll_cons_mk (WideElems.Trod_stays laidOut rec1 lt1 h1 (fun x hx => hb.same (hlt x (by simp [hx]))) (fun x hx => hsp x (by simp [hx]))) (trodAll_cons_mk (WideElems.Trod_stays laidOut rec2 lt2 h2 (fun x hx => hb.same (hlt x (by simp [hx]))) (fun x hx => hsp x (by simp [hx]))) (trodAll_mk0)))) (fun _ _ => rfl) rfl hb (ok_one (by kernel_rfl) rfl (okWide_bool_mk Tryd.underlying4 _))⟩
noncomputable def laidWorld (os : Os) : World :=
  { World.holding Tryd.prog os ⟨#[], #[], []⟩ with heap := (World.holding Tryd.prog os ⟨#[], #[], []⟩).heap.modify 0 fun
      | .cells _ t frozen => .cells #[.int .u8 0, .int .u8 29, .int .u8 58, .int .u8 39, .int .u8 116, .int .u8 105, .int .u8 78, .int .u8 83, .int .u8 232, .int .u8 245, .int .u8 210, .int .u8 207, .int .u8 156, .int .u8 129, .int .u8 166, .int .u8 187] t frozen
      | o => o }
theorem laid_met (os : Os) : laidMet Tryd.prog Rows.splitCorrectsUptoRow.laid ((laidWorld os).forCall (fun _ _ => 0) ⟨#[], #[.agg #[.string ⟨#[]⟩, .int .i64 0, .slice none 0 0, .string ⟨#[]⟩], .slice none 0 0, .int .u8 0], []⟩).memory :=
  laidMet_of_run' 8 (by kernel_rfl) (by kernel_rfl)
theorem reads (os : Os) {H : Type} (enc : TypeId × Value → H) : ∃ places, DataW.whole enc Tryd.prog ((laidWorld os).forCall (fun _ _ => 0) ⟨#[], #[.agg #[.string ⟨#[]⟩, .int .i64 0, .slice none 0 0, .string ⟨#[]⟩], .slice none 0 0, .int .u8 0], []⟩).memory Tryd.f8.params.toList Rows.splitCorrectsSpec.vars false (#[.agg #[.string ⟨#[]⟩, .int .i64 0, .slice none 0 0, .string ⟨#[]⟩], .slice none 0 0, .int .u8 0] : Array Value).toList 8 = some ([.agg [.lit (.string []), .lit (.int .i64 0), .nil, .lit (.string [])], .nil, .lit (.int .u8 0)], [], places) :=
  ⟨[], by kernel_rfl⟩
theorem liftedUpto (os : Os) (started : os.Started) (H : Type) (enc : TypeId × Value → H) (F : Stop.Interp) :
    ReturnsInHanded {} Tryd.checked os 8 .any ((Rows.OpenSpec.upto Rows.splitCorrectsSpec).preRow enc Tryd.prog Tryd.f8 Rows.splitCorrectsUptoRow.domain false Rows.splitCorrectsUptoRow.laid) (((Rows.OpenSpec.upto Rows.splitCorrectsSpec).at F).post enc Tryd.prog Tryd.f8 false true false false) := by
  obtain ⟨places, hx⟩ := reads os enc
  refine returnsInHanded_of_row (C := Tryd.checked) (s := Rows.OpenSpec.upto Rows.splitCorrectsSpec) own started (by kernel_rfl) Tryd.func8
    (witness_row_at (enc := enc) (C := Tryd.checked) false (laidWorld os) #[.agg #[.string ⟨#[]⟩, .int .i64 0, .slice none 0 0, .string ⟨#[]⟩], .slice none 0 0, .int .u8 0] rfl (by kernel_rfl) (by kernel_rfl) (by kernel_rfl)
      (OpenSpec.preRow_of_cond 8 hx (by kernel_rfl) (fun k hk => by cases hk; kernel_rfl) (by kernel_rfl) (laid_met os))) ?_
  intro W base args ds gs before hval hW _ hcond _ hL _ _
  exact contract H enc W base args ds gs before hval hW (hcond _ rfl) hL
theorem saidUpto : Rows.SplitCorrectsUptoSaid :=
  OpenClaim.holds_of_cond 8 Tryd.f8 rfl rfl rfl rfl rfl rfl rfl ⟨rfl, rfl, rfl, rfl, rfl⟩ rfl rfl rfl rfl rfl (by kernel_rfl) Tryd.func8 (by kernel_rfl)
    (of_decide_eq_true (by kernel_rfl)) (by unfold Func.isWrapper; first | (rw [if_pos (by decide +kernel)]; kernel_rfl) | (rw [if_neg (by decide +kernel)]; exact ⟨rfl, rfl⟩))
    (fun os started H enc _ F => by rw [OpenClaim.pre_eq_preRow]; exact liftedUpto os started H enc F)
theorem plain (f : FuncId) (fn : Func) (hf : Tryd.pinned.checked.prog.funcNamed "quietus/quietuslaw26.SplitCorrects" = some f) (hfn : Tryd.pinned.checked.prog.funcs[f]? = some fn) :
    false = Tryd.pinned.checked.prog.looks [] ∧ ∀ (j : Nat) t, fn.params[j]? = some t → Tryd.pinned.checked.prog.wantsStandIn t = false := by
  obtain rfl : f = 8 := Option.some.inj ((show Tryd.prog.funcNamed "quietus/quietuslaw26.SplitCorrects" = some 8 by kernel_rfl).symm.trans hf) |>.symm
  obtain rfl : fn = Tryd.f8 := (Option.some.inj (Tryd.func8.symm.trans hfn)).symm
  refine ⟨by kernel_rfl, fun j t ht => ?_⟩
  rw [Tryd.params8] at ht
  have hm := Array.mem_of_getElem? ht
  simp only [List.mem_toArray, List.mem_cons, List.not_mem_nil, or_false] at hm
  rcases hm with rfl | rfl | rfl
  · exact (show Tryd.prog.wantsStandIn 24 = false by kernel_rfl)
  · exact (show Tryd.prog.wantsStandIn 27 = false by kernel_rfl)
  · exact (show Tryd.prog.wantsStandIn 5 = false by kernel_rfl)
theorem cardUpto : Rows.SplitCorrectsUptoCardSaid :=
  Claim7.holds_tied_plain_at .later [] _ _ _ _ saidUpto (fun _ h => by cases h) (by kernel_rfl) (fun _ h => by cases h) splitCorrectsUpto_row_tie rfl ⟨rfl, rfl⟩ (by kernel_rfl) rfl plain (by kernel_rfl)
end Cd.splitCorrects
theorem splitCorrects_holds : Rows.SplitCorrectsUptoCardSaid := Cd.splitCorrects.cardUpto
end Go.Proofs.YtakbedmeieeekaaDoor

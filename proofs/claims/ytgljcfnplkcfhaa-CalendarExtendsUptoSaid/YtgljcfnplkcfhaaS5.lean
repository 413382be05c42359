/- Texts of this claim: S29.R2, S29.Pf. -/
import Derived.Test.YtgljcfnplkcfhaaS4
import Derived.Test.YtgljcfnplkcfhaaS2
set_option linter.unusedVariables false
set_option linter.unusedSimpArgs false
namespace Go.Proofs.Ytgljcfnplkcfhaa.S29
open Go Go.Proofs.Ytgljcfnplkcfhaa.Vc Go.Proofs
set_option maxRecDepth 100000
set_option linter.unusedVariables false

def sRLok : List V → Option (Prop × V × List Blk)
  | [.agg [.int .i64 b, .int .i64 l, .int .i64 d, .int .i64 m, .sl false (.int .i64) hs], .sl false (.int .i64) z, .int .i64 t] => some (hs.length ≤ 2000000 ∧ z.length ≤ 2000000, .agg [.int .i64 (lokM b l d m hs z t), .int .i64 (lokY b l d m hs z t), .b (lokL b l d m hs z t), .own (.int .i64) 0, .own (.int .i64) 1, .own (.int .i64) 2, .int .i64 (lokE b l d m hs z t)], [.row true (.int .i64) (lokW b l d m hs z t), .row true (.int .i64) (lokT b l d m hs z t), .row true (.int .i64) (lokR b l d m hs z t)])
  | _ => none
set_option maxHeartbeats 4000000 in
theorem bRLok (b : Int) (l : Int) (d : Int) (m : Int) (hs : List Int) (z : List Int) (t : Int) (hp0 : hs.length ≤ 2000000) (hp1 : z.length ≤ 2000000) : bodyP (En CSan tys [] QAt) Try.f39 [.k, .k, .k, .o (.int .i64), .o (.int .i64), .o (.int .i64), .k] [.agg [.int .i64 b, .int .i64 l, .int .i64 d, .int .i64 m, .sl false (.int .i64) hs], .sl false (.int .i64) z, .int .i64 t] (.agg [.int .i64 (lokM b l d m hs z t), .int .i64 (lokY b l d m hs z t), .b (lokL b l d m hs z t), .own (.int .i64) 0, .own (.int .i64) 1, .own (.int .i64) 2, .int .i64 (lokE b l d m hs z t)]) [.row true (.int .i64) (lokW b l d m hs z t), .row true (.int .i64) (lokT b l d m hs z t), .row true (.int .i64) (lokR b l d m hs z t)] := by
  refine ⟨rfl /- o0 -/, rfl /- o1 -/, rfl /- o2 -/, rfl /- o3 -/, by show hs.length ≤ 2000000; first | omega | assumption /- o4 -/, fun h0 => ?_, fun h0 => ?_⟩
  · replace h0 : (chkL b l d m hs) ≠ 0 := h0  -- 0t
    refine ⟨⟨rfl, rfl, rfl, Nat.le_of_ble_eq_true rfl⟩ /- o5 -/, ?_⟩
    -- leaf 0: [] | ['.cells [.int .i64 b, .int .i64 l, .int .i64 d, .int .i64 m, .sl false (.int .i64) hs]', '.cells [.int .i64 0, .int .i64 0, .b False, .nils, .nils, .nils, .int .i64 (chkL b l d m hs)]']
    have e0 : lokE b l d m hs z t = chkL b l d m hs := if_neg h0
    have en : ¬ lokE b l d m hs z t = 0 := by rw [e0]; exact h0
    rw [e0, show lokM b l d m hs z t = 0 from if_neg en, show lokY b l d m hs z t = 0 from if_neg en, show lokW b l d m hs z t = [] from if_neg en, show lokT b l d m hs z t = [] from if_neg en, show lokR b l d m hs z t = [] from if_neg en, show lokL b l d m hs z t = False from propext ⟨fun h => en h.1, fun h => h.elim⟩]
    exact ⟨rfl, rfl, rfl, rfl⟩
  · replace h0 : ¬ ((chkL b l d m hs) ≠ 0) := h0  -- 0f
    have hc := chk0 (Classical.not_not.1 h0)
    obtain ⟨q1, q2, q3, q4, q5, q6, q7, q8, q9, q10, q11⟩ := id hc
    refine ⟨rfl /- o6 -/, rfl /- o7 -/, rfl /- o8 -/, rfl /- o9 -/, ⟨by show 0 ≤ b; first | omega | assumption /- o10 -/, by show b ≤ l; first | omega | assumption /- o11 -/, by show l ≤ 1000000; first | omega | assumption /- o12 -/, by show 1 ≤ d; first | omega | assumption /- o13 -/⟩, 2, [(1, .k), (2, .k), (3, .k), (6, .k), (8, .k), (9, .k)], fun n vs H => ∃ (k : Nat), k ≤ z.length ∧ hgF (cntL b l d - 1) (prv z k) (z.drop k) = hgF (cntL b l d - 1) (-1) z ∧ n = z.length - k ∧ vs = [.sl false (.int .i64) z, .int .i64 t, .ptr 0 1 0 0, .ptr 1 1 0 0, .int .i64 (cntL b l d), .int .i64 (k : Int)] ∧ H = [.cells [.int .i64 b, .int .i64 l, .int .i64 d, .int .i64 m, .sl false (.int .i64) hs], .cells [.int .i64 0, .int .i64 0, .b False, .nils, .nils, .nils, .int .i64 0]], ⟨rfl, z.length, 0, by omega, rfl, by omega, rfl, rfl⟩, ?_⟩
    rintro n vs H ⟨k, hc1_0, hc1_1, rfl, rfl, rfl⟩
    refine ⟨fun h1 => ?_, fun h1 => ?_⟩
    · replace h1 : (k : Int) < (z.length : Int) := h1  -- 1t
      have hkl : k < z.length := by omega
      have hk1 : ((k : Int) - 1).toNat = k - 1 := by omega
      refine ⟨by kernel_rfl /- o14 -/, ⟨by show (0 : Int) ≤ (k : Int); omega, by show (k : Int) < (z.length : Int); omega⟩ /- o15 -/, fun h2 => ?_, fun h2 => ?_⟩
      · replace h2 : ¬ ((z.getD k 0) < 0) := h2  -- 2f
        refine ⟨fun h3 => ?_, fun h3 => absurd h3 (show ¬ ((z.getD k 0) < 0) by first | omega | assumption | simp_all)⟩
        refine ⟨fun h4 => ?_, fun h4 => absurd h4 (show ¬ ((z.getD k 0) < 0) by first | omega | assumption | simp_all)⟩
        refine ⟨⟨by show (0 : Int) ≤ (k : Int); omega, by show (k : Int) < (z.length : Int); omega⟩ /- o16 -/, fun h5 => ?_, fun h5 => absurd h5 (show ¬ ((z.getD k 0) < 0) by first | omega | assumption | simp_all)⟩
        refine ⟨fun h6 => ?_, fun h6 => absurd h6 (show ¬ ((z.getD k 0) < 0) by first | omega | assumption | simp_all)⟩
        refine ⟨fun h7 => ?_, fun h7 => absurd h7 (show ¬ ((z.getD k 0) < 0) by first | omega | assumption | simp_all)⟩
        refine ⟨fun h8 => absurd h8 (show ¬ ((z.getD k 0) < 0) by first | omega | assumption | simp_all), fun h8 => ?_⟩
        refine ⟨fun h9 => ?_, fun h9 => ?_⟩
        · replace h9 : ¬ ((cntL b l d) ≤ (z.getD k 0)) := h9  -- 9f
          refine ⟨fun h10 => ?_, fun h10 => absurd h10 (show ¬ ((cntL b l d) ≤ (z.getD k 0)) by first | omega | assumption | simp_all)⟩
          refine ⟨fun h11 => ?_, fun h11 => absurd h11 (show ¬ ((cntL b l d) ≤ (z.getD k 0)) by first | omega | assumption | simp_all)⟩
          refine ⟨fun h12 => ?_, fun h12 => ?_⟩
          · replace h12 : 0 < (k : Int) := h12  -- 12t
            refine ⟨fun h13 => ?_, fun h13 => absurd (show 0 < (k : Int) by first | omega | assumption | simp_all) h13⟩
            refine ⟨fun h14 => ?_, fun h14 => absurd (show 0 < (k : Int) by first | omega | assumption | simp_all) h14⟩
            refine ⟨⟨by show (0 : Int) ≤ (k : Int); omega, by show (k : Int) < (z.length : Int); omega⟩ /- o17 -/, fun h15 => ?_, fun h15 => absurd (show 0 < (k : Int) by first | omega | assumption | simp_all) h15⟩
            refine ⟨fun h16 => ?_, fun h16 => absurd (show 0 < (k : Int) by first | omega | assumption | simp_all) h16⟩
            refine ⟨fun h17 => ?_, fun h17 => absurd (show 0 < (k : Int) by first | omega | assumption | simp_all) h17⟩
            refine ⟨fun h18 => ?_, fun h18 => absurd (show 0 < (k : Int) by first | omega | assumption | simp_all) h18⟩
            refine ⟨⟨by show (-9223372036854775808 : Int) ≤ ((k : Int) - 1); omega, by show ((k : Int) - 1) ≤ (9223372036854775807 : Int); omega⟩ /- o18 -/, fun h19 => ?_, fun h19 => absurd (show 0 < (k : Int) by first | omega | assumption | simp_all) h19⟩
            refine ⟨⟨by show (0 : Int) ≤ ((k : Int) - 1); omega, by show ((k : Int) - 1) < (z.length : Int); omega⟩ /- o19 -/, fun h20 => ?_, fun h20 => absurd (show 0 < (k : Int) by first | omega | assumption | simp_all) h20⟩
            refine ⟨fun h21 => ?_, fun h21 => absurd (show 0 < (k : Int) by first | omega | assumption | simp_all) h21⟩
            refine ⟨fun h22 => ?_, fun h22 => absurd h22 (show ¬ ((cntL b l d) ≤ (z.getD k 0)) by first | omega | assumption | simp_all)⟩
            refine ⟨fun h23 => ?_, fun h23 => absurd (show 0 < (k : Int) by first | omega | assumption | simp_all) h23⟩
            refine ⟨fun h24 => absurd h24 (show ¬ ((cntL b l d) ≤ (z.getD k 0)) by first | omega | assumption | simp_all), fun h24 => ?_⟩
            refine ⟨fun h25 => ?_, fun h25 => ?_⟩
            · replace h25 : (z.getD k 0) ≤ (z.getD (((k : Int) - 1).toNat) 0) := h25  -- 25t
              rw [hk1] at h25
              refine ⟨⟨rfl, rfl, rfl, Nat.le_of_ble_eq_true rfl⟩ /- o20 -/, ?_⟩
              -- leaf 1: [] | ['.cells [.int .i64 b, .int .i64 l, .int .i64 d, .int .i64 m, .sl false (.int .i64) hs]', '.cells [.int .i64 0, .int .i64 0, .b False, .nils, .nils, .nils, .int .i64 1]']
              have e0 : lokE b l d m hs z t = 1 := by unfold lokE; rw [if_pos (Classical.not_not.1 h0), hg_bad hkl hc1_1 (by rw [prv_pos z (by omega)]; omega)]; rfl
              have en : ¬ lokE b l d m hs z t = 0 := by rw [e0]; decide
              rw [e0, show lokM b l d m hs z t = 0 from if_neg en, show lokY b l d m hs z t = 0 from if_neg en, show lokW b l d m hs z t = [] from if_neg en, show lokT b l d m hs z t = [] from if_neg en, show lokR b l d m hs z t = [] from if_neg en, show lokL b l d m hs z t = False from propext ⟨fun h => en h.1, fun h => h.elim⟩]
              exact ⟨rfl, rfl, rfl, rfl⟩
            · replace h25 : ¬ ((z.getD k 0) ≤ (z.getD (((k : Int) - 1).toNat) 0)) := h25  -- 25f
              rw [hk1] at h25
              refine ⟨⟨by show (-9223372036854775808 : Int) ≤ ((k : Int) + 1); omega, by show ((k : Int) + 1) ≤ (9223372036854775807 : Int); omega⟩ /- o21 -/, ?_⟩
              exact ⟨rfl, z.length - (k + 1), by omega, k + 1, by omega, hg_next hkl hc1_1 (by first | (rw [prv_pos z (by omega)]; omega) | (rw [prv_zero z (by omega)]; omega)), rfl, rfl, rfl⟩
          · replace h12 : ¬ (0 < (k : Int)) := h12  -- 12f
            refine ⟨fun h26 => absurd h26 (show ¬ (0 < (k : Int)) by first | omega | assumption | simp_all), fun h26 => ?_⟩
            refine ⟨fun h27 => absurd h27 (show ¬ (0 < (k : Int)) by first | omega | assumption | simp_all), fun h27 => ?_⟩
            refine ⟨fun h28 => absurd h28 (show ¬ (0 < (k : Int)) by first | omega | assumption | simp_all), fun h28 => ?_⟩
            refine ⟨fun h29 => absurd h29 (show ¬ (0 < (k : Int)) by first | omega | assumption | simp_all), fun h29 => ?_⟩
            refine ⟨fun h30 => absurd h30 (show ¬ (0 < (k : Int)) by first | omega | assumption | simp_all), fun h30 => ?_⟩
            refine ⟨fun h31 => absurd h31 (show ¬ (0 < (k : Int)) by first | omega | assumption | simp_all), fun h31 => ?_⟩
            refine ⟨fun h32 => absurd h32 (show ¬ (0 < (k : Int)) by first | omega | assumption | simp_all), fun h32 => ?_⟩
            refine ⟨fun h33 => absurd h33 (show ¬ (0 < (k : Int)) by first | omega | assumption | simp_all), fun h33 => ?_⟩
            refine ⟨fun h34 => absurd h34 (show ¬ (0 < (k : Int)) by first | omega | assumption | simp_all), fun h34 => ?_⟩
            refine ⟨fun h35 => ?_, fun h35 => absurd h35 (show ¬ ((cntL b l d) ≤ (z.getD k 0)) by first | omega | assumption | simp_all)⟩
            refine ⟨fun h36 => absurd h36 (show ¬ (0 < (k : Int)) by first | omega | assumption | simp_all), fun h36 => ?_⟩
            refine ⟨fun h37 => absurd h37 (show ¬ ((cntL b l d) ≤ (z.getD k 0)) by first | omega | assumption | simp_all), fun h37 => ?_⟩
            refine ⟨⟨by show (-9223372036854775808 : Int) ≤ ((k : Int) + 1); omega, by show ((k : Int) + 1) ≤ (9223372036854775807 : Int); omega⟩ /- o22 -/, ?_⟩
            exact ⟨rfl, z.length - (k + 1), by omega, k + 1, by omega, hg_next hkl hc1_1 (by first | (rw [prv_pos z (by omega)]; omega) | (rw [prv_zero z (by omega)]; omega)), rfl, rfl, rfl⟩
        · replace h9 : (cntL b l d) ≤ (z.getD k 0) := h9  -- 9t
          refine ⟨fun h38 => absurd (show (cntL b l d) ≤ (z.getD k 0) by first | omega | assumption | simp_all) h38, fun h38 => ?_⟩
          refine ⟨fun h39 => absurd (show (cntL b l d) ≤ (z.getD k 0) by first | omega | assumption | simp_all) h39, fun h39 => ?_⟩
          refine ⟨fun h40 => absurd (show (cntL b l d) ≤ (z.getD k 0) by first | omega | assumption | simp_all) h40, fun h40 => ?_⟩
          refine ⟨fun h41 => ?_, fun h41 => absurd (show (cntL b l d) ≤ (z.getD k 0) by first | omega | assumption | simp_all) h41⟩
          refine ⟨⟨rfl, rfl, rfl, Nat.le_of_ble_eq_true rfl⟩ /- o23 -/, ?_⟩
          -- leaf 2: [] | ['.cells [.int .i64 b, .int .i64 l, .int .i64 d, .int .i64 m, .sl false (.int .i64) hs]', '.cells [.int .i64 0, .int .i64 0, .b False, .nils, .nils, .nils, .int .i64 1]']
          have e0 : lokE b l d m hs z t = 1 := by unfold lokE; rw [if_pos (Classical.not_not.1 h0), hg_bad hkl hc1_1 (by omega)]; rfl
          have en : ¬ lokE b l d m hs z t = 0 := by rw [e0]; decide
          rw [e0, show lokM b l d m hs z t = 0 from if_neg en, show lokY b l d m hs z t = 0 from if_neg en, show lokW b l d m hs z t = [] from if_neg en, show lokT b l d m hs z t = [] from if_neg en, show lokR b l d m hs z t = [] from if_neg en, show lokL b l d m hs z t = False from propext ⟨fun h => en h.1, fun h => h.elim⟩]
          exact ⟨rfl, rfl, rfl, rfl⟩
      · replace h2 : (z.getD k 0) < 0 := h2  -- 2t
        refine ⟨fun h42 => absurd (show (z.getD k 0) < 0 by first | omega | assumption | simp_all) h42, fun h42 => ?_⟩
        refine ⟨fun h43 => absurd (show (z.getD k 0) < 0 by first | omega | assumption | simp_all) h43, fun h43 => ?_⟩
        refine ⟨fun h44 => absurd (show (z.getD k 0) < 0 by first | omega | assumption | simp_all) h44, fun h44 => ?_⟩
        refine ⟨fun h45 => absurd (show (z.getD k 0) < 0 by first | omega | assumption | simp_all) h45, fun h45 => ?_⟩
        refine ⟨fun h46 => absurd (show (z.getD k 0) < 0 by first | omega | assumption | simp_all) h46, fun h46 => ?_⟩
        refine ⟨fun h47 => ?_, fun h47 => absurd (show (z.getD k 0) < 0 by first | omega | assumption | simp_all) h47⟩
        refine ⟨⟨rfl, rfl, rfl, Nat.le_of_ble_eq_true rfl⟩ /- o24 -/, ?_⟩
        -- leaf 3: [] | ['.cells [.int .i64 b, .int .i64 l, .int .i64 d, .int .i64 m, .sl false (.int .i64) hs]', '.cells [.int .i64 0, .int .i64 0, .b False, .nils, .nils, .nils, .int .i64 1]']
        have e0 : lokE b l d m hs z t = 1 := by unfold lokE; rw [if_pos (Classical.not_not.1 h0), hg_bad hkl hc1_1 (by omega)]; rfl
        have en : ¬ lokE b l d m hs z t = 0 := by rw [e0]; decide
        rw [e0, show lokM b l d m hs z t = 0 from if_neg en, show lokY b l d m hs z t = 0 from if_neg en, show lokW b l d m hs z t = [] from if_neg en, show lokT b l d m hs z t = [] from if_neg en, show lokR b l d m hs z t = [] from if_neg en, show lokL b l d m hs z t = False from propext ⟨fun h => en h.1, fun h => h.elim⟩]
        exact ⟨rfl, rfl, rfl, rfl⟩
    · replace h1 : ¬ ((k : Int) < (z.length : Int)) := h1  -- 1f
      have hgo := hg_end (by omega) hc1_0 hc1_1
      refine ⟨fun h48 => ?_, fun h48 => ?_⟩
      · replace h48 : ¬ (t < 0) := h48  -- 48f
        refine ⟨fun h49 => ?_, fun h49 => ?_⟩
        · replace h49 : 1000000 < t := h49  -- 49t
          refine ⟨⟨rfl, rfl, rfl, Nat.le_of_ble_eq_true rfl⟩ /- o25 -/, ?_⟩
          -- leaf 4: [] | ['.cells [.int .i64 b, .int .i64 l, .int .i64 d, .int .i64 m, .sl false (.int .i64) hs]', '.cells [.int .i64 0, .int .i64 0, .b False, .nils, .nils, .nils, .int .i64 3]']
          have e0 : lokE b l d m hs z t = 3 := by unfold lokE; rw [if_pos (Classical.not_not.1 h0), if_pos hgo, if_neg (by omega)]
          have en : ¬ lokE b l d m hs z t = 0 := by rw [e0]; decide
          rw [e0, show lokM b l d m hs z t = 0 from if_neg en, show lokY b l d m hs z t = 0 from if_neg en, show lokW b l d m hs z t = [] from if_neg en, show lokT b l d m hs z t = [] from if_neg en, show lokR b l d m hs z t = [] from if_neg en, show lokL b l d m hs z t = False from propext ⟨fun h => en h.1, fun h => h.elim⟩]
          exact ⟨rfl, rfl, rfl, rfl⟩
        · replace h49 : ¬ (1000000 < t) := h49  -- 49f
          obtain ⟨per1, per2⟩ := per_ok hc t
          have e0 : lokE b l d m hs z t = 0 := by unfold lokE; rw [if_pos (Classical.not_not.1 h0), if_pos hgo, if_pos (by omega)]
          have eW : lokW b l d m hs z t = z.filter (wpP b l d t) := if_pos e0
          have eT : lokT b l d m hs z t = z.filter (ltP b l d t) := if_pos e0
          have eR : lokR b l d m hs z t = z.filter (eaP b d t) := if_pos e0
          have eM : lokM b l d m hs z t = perL b l d m hs t := if_pos e0
          refine ⟨rfl /- o26 -/, rfl /- o27 -/, rfl /- o28 -/, rfl /- o29 -/, rfl /- o30 -/, by show hs.length ≤ 2000000; first | omega | assumption /- o31 -/, ⟨rfl, rfl, rfl, Nat.le_of_ble_eq_true rfl⟩ /- o32 -/, fun h50 => ?_, fun h50 => ?_⟩
          · replace h50 : 0 ≤ (perL b l d m hs t) := h50  -- 50t
            refine ⟨⟨by show (-9223372036854775808 : Int) ≤ ((perL b l d m hs t) + 1); omega, by show ((perL b l d m hs t) + 1) ≤ (9223372036854775807 : Int); omega⟩ /- o33 -/, fun h51 => ?_, fun h51 => ?_⟩
            · replace h51 : ((perL b l d m hs t) + 1) < (cntL b l d) := h51  -- 51t
              refine ⟨⟨by show (-9223372036854775808 : Int) ≤ ((perL b l d m hs t) + 1); omega, by show ((perL b l d m hs t) + 1) ≤ (9223372036854775807 : Int); omega⟩ /- o34 -/, ⟨rfl, rfl, rfl⟩ /- o35 -/, rfl /- o36 -/, by show z.length ≤ 2000000; first | omega | assumption /- o37 -/, fun h52 => ?_, fun h52 => absurd (show 0 ≤ (perL b l d m hs t) by first | omega | assumption | simp_all) h52⟩
              refine ⟨⟨rfl, rfl, rfl⟩ /- o38 -/, 6, [(1, .k), (2, .k), (3, .k), (6, .k), (10, .c [(3, (.int .i64)), (4, (.int .i64)), (5, (.int .i64))]), (12, .k)], fun n vs H => ∃ (k : Nat), k ≤ z.length ∧ n = z.length - k ∧ vs = [.sl false (.int .i64) z, .int .i64 t, .ptr 0 1 0 0, .ptr 1 1 0 0, .ptr 2 1 0 0, .int .i64 (k : Int)] ∧ H = [.cells [.int .i64 b, .int .i64 l, .int .i64 d, .int .i64 m, .sl false (.int .i64) hs], .cells [.int .i64 0, .int .i64 0, .b False, .nils, .nils, .nils, .int .i64 0], .cells [.int .i64 (perL b l d m hs t), .int .i64 ((perL b l d m hs t) + 1), .b (¬ ((perL b l d m hs t) ∈ z)), .own (.int .i64) 3, .own (.int .i64) 4, .own (.int .i64) 5], .row true (.int .i64) ((z.take k).filter (wpP b l d t)), .row true (.int .i64) ((z.take k).filter (ltP b l d t)), .row true (.int .i64) ((z.take k).filter (eaP b d t))], ⟨rfl, z.length, 0, by omega, by omega, rfl, rfl⟩, ?_⟩
              rintro n vs H ⟨k, hc2_0, rfl, rfl, rfl⟩
              have hq0 : k < z.length → 0 ≤ z.getD k 0 ∧ z.getD k 0 ≤ cntL b l d - 1 := hg_at _ z _ k hgo
              have l1 := filter_take_len (wpP b l d t) z k
              have l2 := filter_take_len (ltP b l d t) z k
              have l3 := filter_take_len (eaP b d t) z k
              have f1 : k < z.length → (spanT b l d (z.getD k 0)) < t → (z.take (k + 1)).filter (wpP b l d t) = (z.take k).filter (wpP b l d t) ++ [z.getD k 0] := fun h g => filter_yes 0 _ z k h (decide_eq_true g)
              have f2 : k < z.length → ¬ ((spanT b l d (z.getD k 0)) < t) → (z.take (k + 1)).filter (wpP b l d t) = (z.take k).filter (wpP b l d t) := fun h g => filter_no 0 _ z k h (decide_eq_false g)
              have f3 : k < z.length → (expT b l d (z.getD k 0)) < t → (z.take (k + 1)).filter (ltP b l d t) = (z.take k).filter (ltP b l d t) ++ [z.getD k 0] := fun h g => filter_yes 0 _ z k h (decide_eq_true g)
              have f4 : k < z.length → ¬ ((expT b l d (z.getD k 0)) < t) → (z.take (k + 1)).filter (ltP b l d t) = (z.take k).filter (ltP b l d t) := fun h g => filter_no 0 _ z k h (decide_eq_false g)
              have f5 : k < z.length → t < (expF b d (z.getD k 0)) → (z.take (k + 1)).filter (eaP b d t) = (z.take k).filter (eaP b d t) ++ [z.getD k 0] := fun h g => filter_yes 0 _ z k h (decide_eq_true g)
              have f6 : k < z.length → ¬ (t < (expF b d (z.getD k 0))) → (z.take (k + 1)).filter (eaP b d t) = (z.take k).filter (eaP b d t) := fun h g => filter_no 0 _ z k h (decide_eq_false g)
              refine ⟨fun h53 => ?_, fun h53 => ?_⟩
              · replace h53 : (k : Int) < (z.length : Int) := h53  -- 53t
                obtain ⟨qz1, qz2⟩ := hq0 (by omega)
                have ea : askL b l d m hs (z.getD k 0) = 0 := hc.ask (by omega) (by omega)
                refine ⟨by kernel_rfl /- o39 -/, ⟨by show (0 : Int) ≤ (k : Int); omega, by show (k : Int) < (z.length : Int); omega⟩ /- o40 -/, rfl /- o41 -/, rfl /- o42 -/, rfl /- o43 -/, rfl /- o44 -/, rfl /- o45 -/, by show hs.length ≤ 2000000; first | omega | assumption /- o46 -/, ⟨rfl, rfl, rfl, Nat.le_of_ble_eq_true rfl⟩ /- o47 -/, by kernel_rfl /- o48 -/, ⟨by show (0 : Int) ≤ (k : Int); omega, by show (k : Int) < (z.length : Int); omega⟩ /- o49 -/, rfl /- o50 -/, rfl /- o51 -/, rfl /- o52 -/, rfl /- o53 -/, rfl /- o54 -/, by show hs.length ≤ 2000000; first | omega | assumption /- o55 -/, ⟨rfl, rfl, rfl, Nat.le_of_ble_eq_true rfl⟩ /- o56 -/, fun h54 => ?_, fun h54 => ?_⟩
                · replace h54 : (if askL b l d m hs (z.getD k 0) = 0 then spanT b l d (z.getD k 0) else 0) < t := h54  -- 54t
                  rw [if_pos ea] at h54
                  refine ⟨by kernel_rfl /- o57 -/, ⟨by show (0 : Int) ≤ (k : Int); omega, by show (k : Int) < (z.length : Int); omega⟩ /- o58 -/, rfl /- o59 -/, ⟨rfl, rfl⟩ /- o60 -/, by show ((z.take k).filter (wpP b l d t)).length + ([z.getD k 0] : List Int).length ≤ 1000000000; simp only [List.length_cons, List.length_nil]; omega /- o61 -/, ⟨rfl, rfl, rfl⟩ /- o62 -/, fun h55 => ?_, fun h55 => ?_⟩
                  · replace h55 : (if askL b l d m hs (z.getD k 0) = 0 then expT b l d (z.getD k 0) else 0) < t := h55  -- 55t
                    rw [if_pos ea] at h55
                    refine ⟨by kernel_rfl /- o63 -/, ⟨by show (0 : Int) ≤ (k : Int); omega, by show (k : Int) < (z.length : Int); omega⟩ /- o64 -/, rfl /- o65 -/, ⟨rfl, rfl⟩ /- o66 -/, by show ((z.take k).filter (ltP b l d t)).length + ([z.getD k 0] : List Int).length ≤ 1000000000; simp only [List.length_cons, List.length_nil]; omega /- o67 -/, ⟨rfl, rfl, rfl⟩ /- o68 -/, fun h56 => ?_, fun h56 => ?_⟩
                    · replace h56 : t < (if askL b l d m hs (z.getD k 0) = 0 then expF b d (z.getD k 0) else 0) := h56  -- 56t
                      rw [if_pos ea] at h56
                      refine ⟨by kernel_rfl /- o69 -/, ⟨by show (0 : Int) ≤ (k : Int); omega, by show (k : Int) < (z.length : Int); omega⟩ /- o70 -/, rfl /- o71 -/, ⟨rfl, rfl⟩ /- o72 -/, by show ((z.take k).filter (eaP b d t)).length + ([z.getD k 0] : List Int).length ≤ 1000000000; simp only [List.length_cons, List.length_nil]; omega /- o73 -/, ⟨rfl, rfl, rfl⟩ /- o74 -/, ⟨by show (-9223372036854775808 : Int) ≤ ((k : Int) + 1); omega, by show ((k : Int) + 1) ≤ (9223372036854775807 : Int); omega⟩ /- o75 -/, ?_⟩
                      exact ⟨rfl, z.length - (k + 1), by omega, k + 1, by omega, rfl, rfl, by (first | rw [f1 (by omega) (by assumption)] | rw [f2 (by omega) (by assumption)]); (first | rw [f3 (by omega) (by assumption)] | rw [f4 (by omega) (by assumption)]); (first | rw [f5 (by omega) (by assumption)] | rw [f6 (by omega) (by assumption)]); rfl⟩
                    · replace h56 : ¬ (t < (if askL b l d m hs (z.getD k 0) = 0 then expF b d (z.getD k 0) else 0)) := h56  -- 56f
                      rw [if_pos ea] at h56
                      refine ⟨⟨by show (-9223372036854775808 : Int) ≤ ((k : Int) + 1); omega, by show ((k : Int) + 1) ≤ (9223372036854775807 : Int); omega⟩ /- o76 -/, ?_⟩
                      exact ⟨rfl, z.length - (k + 1), by omega, k + 1, by omega, rfl, rfl, by (first | rw [f1 (by omega) (by assumption)] | rw [f2 (by omega) (by assumption)]); (first | rw [f3 (by omega) (by assumption)] | rw [f4 (by omega) (by assumption)]); (first | rw [f5 (by omega) (by assumption)] | rw [f6 (by omega) (by assumption)]); rfl⟩
                  · replace h55 : ¬ ((if askL b l d m hs (z.getD k 0) = 0 then expT b l d (z.getD k 0) else 0) < t) := h55  -- 55f
                    rw [if_pos ea] at h55
                    refine ⟨fun h57 => ?_, fun h57 => ?_⟩
                    · replace h57 : t < (if askL b l d m hs (z.getD k 0) = 0 then expF b d (z.getD k 0) else 0) := h57  -- 57t
                      rw [if_pos ea] at h57
                      refine ⟨by kernel_rfl /- o77 -/, ⟨by show (0 : Int) ≤ (k : Int); omega, by show (k : Int) < (z.length : Int); omega⟩ /- o78 -/, rfl /- o79 -/, ⟨rfl, rfl⟩ /- o80 -/, by show ((z.take k).filter (eaP b d t)).length + ([z.getD k 0] : List Int).length ≤ 1000000000; simp only [List.length_cons, List.length_nil]; omega /- o81 -/, ⟨rfl, rfl, rfl⟩ /- o82 -/, ⟨by show (-9223372036854775808 : Int) ≤ ((k : Int) + 1); omega, by show ((k : Int) + 1) ≤ (9223372036854775807 : Int); omega⟩ /- o83 -/, ?_⟩
                      exact ⟨rfl, z.length - (k + 1), by omega, k + 1, by omega, rfl, rfl, by (first | rw [f1 (by omega) (by assumption)] | rw [f2 (by omega) (by assumption)]); (first | rw [f3 (by omega) (by assumption)] | rw [f4 (by omega) (by assumption)]); (first | rw [f5 (by omega) (by assumption)] | rw [f6 (by omega) (by assumption)]); rfl⟩
                    · replace h57 : ¬ (t < (if askL b l d m hs (z.getD k 0) = 0 then expF b d (z.getD k 0) else 0)) := h57  -- 57f
                      rw [if_pos ea] at h57
                      refine ⟨⟨by show (-9223372036854775808 : Int) ≤ ((k : Int) + 1); omega, by show ((k : Int) + 1) ≤ (9223372036854775807 : Int); omega⟩ /- o84 -/, ?_⟩
                      exact ⟨rfl, z.length - (k + 1), by omega, k + 1, by omega, rfl, rfl, by (first | rw [f1 (by omega) (by assumption)] | rw [f2 (by omega) (by assumption)]); (first | rw [f3 (by omega) (by assumption)] | rw [f4 (by omega) (by assumption)]); (first | rw [f5 (by omega) (by assumption)] | rw [f6 (by omega) (by assumption)]); rfl⟩
                · replace h54 : ¬ ((if askL b l d m hs (z.getD k 0) = 0 then spanT b l d (z.getD k 0) else 0) < t) := h54  -- 54f
                  rw [if_pos ea] at h54
                  refine ⟨fun h58 => ?_, fun h58 => ?_⟩
                  · replace h58 : (if askL b l d m hs (z.getD k 0) = 0 then expT b l d (z.getD k 0) else 0) < t := h58  -- 58t
                    rw [if_pos ea] at h58
                    refine ⟨by kernel_rfl /- o85 -/, ⟨by show (0 : Int) ≤ (k : Int); omega, by show (k : Int) < (z.length : Int); omega⟩ /- o86 -/, rfl /- o87 -/, ⟨rfl, rfl⟩ /- o88 -/, by show ((z.take k).filter (ltP b l d t)).length + ([z.getD k 0] : List Int).length ≤ 1000000000; simp only [List.length_cons, List.length_nil]; omega /- o89 -/, ⟨rfl, rfl, rfl⟩ /- o90 -/, fun h59 => ?_, fun h59 => ?_⟩
                    · replace h59 : t < (if askL b l d m hs (z.getD k 0) = 0 then expF b d (z.getD k 0) else 0) := h59  -- 59t
                      rw [if_pos ea] at h59
                      refine ⟨by kernel_rfl /- o91 -/, ⟨by show (0 : Int) ≤ (k : Int); omega, by show (k : Int) < (z.length : Int); omega⟩ /- o92 -/, rfl /- o93 -/, ⟨rfl, rfl⟩ /- o94 -/, by show ((z.take k).filter (eaP b d t)).length + ([z.getD k 0] : List Int).length ≤ 1000000000; simp only [List.length_cons, List.length_nil]; omega /- o95 -/, ⟨rfl, rfl, rfl⟩ /- o96 -/, ⟨by show (-9223372036854775808 : Int) ≤ ((k : Int) + 1); omega, by show ((k : Int) + 1) ≤ (9223372036854775807 : Int); omega⟩ /- o97 -/, ?_⟩
                      exact ⟨rfl, z.length - (k + 1), by omega, k + 1, by omega, rfl, rfl, by (first | rw [f1 (by omega) (by assumption)] | rw [f2 (by omega) (by assumption)]); (first | rw [f3 (by omega) (by assumption)] | rw [f4 (by omega) (by assumption)]); (first | rw [f5 (by omega) (by assumption)] | rw [f6 (by omega) (by assumption)]); rfl⟩
                    · replace h59 : ¬ (t < (if askL b l d m hs (z.getD k 0) = 0 then expF b d (z.getD k 0) else 0)) := h59  -- 59f
                      rw [if_pos ea] at h59
                      refine ⟨⟨by show (-9223372036854775808 : Int) ≤ ((k : Int) + 1); omega, by show ((k : Int) + 1) ≤ (9223372036854775807 : Int); omega⟩ /- o98 -/, ?_⟩
                      exact ⟨rfl, z.length - (k + 1), by omega, k + 1, by omega, rfl, rfl, by (first | rw [f1 (by omega) (by assumption)] | rw [f2 (by omega) (by assumption)]); (first | rw [f3 (by omega) (by assumption)] | rw [f4 (by omega) (by assumption)]); (first | rw [f5 (by omega) (by assumption)] | rw [f6 (by omega) (by assumption)]); rfl⟩
                  · replace h58 : ¬ ((if askL b l d m hs (z.getD k 0) = 0 then expT b l d (z.getD k 0) else 0) < t) := h58  -- 58f
                    rw [if_pos ea] at h58
                    refine ⟨fun h60 => ?_, fun h60 => ?_⟩
                    · replace h60 : t < (if askL b l d m hs (z.getD k 0) = 0 then expF b d (z.getD k 0) else 0) := h60  -- 60t
                      rw [if_pos ea] at h60
                      refine ⟨by kernel_rfl /- o99 -/, ⟨by show (0 : Int) ≤ (k : Int); omega, by show (k : Int) < (z.length : Int); omega⟩ /- o100 -/, rfl /- o101 -/, ⟨rfl, rfl⟩ /- o102 -/, by show ((z.take k).filter (eaP b d t)).length + ([z.getD k 0] : List Int).length ≤ 1000000000; simp only [List.length_cons, List.length_nil]; omega /- o103 -/, ⟨rfl, rfl, rfl⟩ /- o104 -/, ⟨by show (-9223372036854775808 : Int) ≤ ((k : Int) + 1); omega, by show ((k : Int) + 1) ≤ (9223372036854775807 : Int); omega⟩ /- o105 -/, ?_⟩
                      exact ⟨rfl, z.length - (k + 1), by omega, k + 1, by omega, rfl, rfl, by (first | rw [f1 (by omega) (by assumption)] | rw [f2 (by omega) (by assumption)]); (first | rw [f3 (by omega) (by assumption)] | rw [f4 (by omega) (by assumption)]); (first | rw [f5 (by omega) (by assumption)] | rw [f6 (by omega) (by assumption)]); rfl⟩
                    · replace h60 : ¬ (t < (if askL b l d m hs (z.getD k 0) = 0 then expF b d (z.getD k 0) else 0)) := h60  -- 60f
                      rw [if_pos ea] at h60
                      refine ⟨⟨by show (-9223372036854775808 : Int) ≤ ((k : Int) + 1); omega, by show ((k : Int) + 1) ≤ (9223372036854775807 : Int); omega⟩ /- o106 -/, ?_⟩
                      exact ⟨rfl, z.length - (k + 1), by omega, k + 1, by omega, rfl, rfl, by (first | rw [f1 (by omega) (by assumption)] | rw [f2 (by omega) (by assumption)]); (first | rw [f3 (by omega) (by assumption)] | rw [f4 (by omega) (by assumption)]); (first | rw [f5 (by omega) (by assumption)] | rw [f6 (by omega) (by assumption)]); rfl⟩
              · replace h53 : ¬ ((k : Int) < (z.length : Int)) := h53  -- 53f
                refine ⟨⟨rfl, rfl, rfl, Nat.le_of_ble_eq_true rfl⟩ /- o107 -/, ?_⟩
                -- leaf 5: [] | ['.cells [.int .i64 b, .int .i64 l, .int .i64 d, .int .i64 m, .sl false (.int .i64) hs]', '.cells [.int .i64 (perL b l d m hs t), .int .i64 ((perL b l d m hs t) + 1), .b (¬ ((perL b l d m hs t) ∈ z)), .own (.int .i64) 3, .own (.int .i64) 4, .own (.int .i64) 5, .int .i64 0]', '.cells [.int .i64 (perL b l d m hs t), .int .i64 ((perL b l d m hs t) + 1), .b (¬ ((perL b l d m hs t) ∈ z)), .own (.int .i64) 3, .own (.int .i64) 4, .own (.int .i64) 5]', '.row true (.int .i64) ((z.take k).filter (wpP b l d t))', '.row true (.int .i64) ((z.take k).filter (ltP b l d t))', '.row true (.int .i64) ((z.take k).filter (eaP b d t))']
                have hk : k = z.length := by omega
                have eY : lokY b l d m hs z t = perL b l d m hs t + 1 := by unfold lokY; rw [if_pos e0]; exact if_pos ⟨h50, h51⟩
                have eL : (lokL b l d m hs z t) = (¬ (perL b l d m hs t ∈ z)) := (propext ⟨fun h => ⟨e0, h50, h⟩, fun h => h.2.2⟩).symm
                rw [e0, eW, eT, eR, eM, eY, eL, hk, List.take_length]
                exact ⟨rfl, rfl, rfl, rfl⟩
            · replace h51 : ¬ (((perL b l d m hs t) + 1) < (cntL b l d)) := h51  -- 51f
              refine ⟨rfl /- o108 -/, by show z.length ≤ 2000000; first | omega | assumption /- o109 -/, fun h61 => ?_, fun h61 => absurd (show 0 ≤ (perL b l d m hs t) by first | omega | assumption | simp_all) h61⟩
              refine ⟨⟨rfl, rfl, rfl⟩ /- o110 -/, 6, [(1, .k), (2, .k), (3, .k), (6, .k), (10, .c [(3, (.int .i64)), (4, (.int .i64)), (5, (.int .i64))]), (12, .k)], fun n vs H => ∃ (k : Nat), k ≤ z.length ∧ n = z.length - k ∧ vs = [.sl false (.int .i64) z, .int .i64 t, .ptr 0 1 0 0, .ptr 1 1 0 0, .ptr 2 1 0 0, .int .i64 (k : Int)] ∧ H = [.cells [.int .i64 b, .int .i64 l, .int .i64 d, .int .i64 m, .sl false (.int .i64) hs], .cells [.int .i64 0, .int .i64 0, .b False, .nils, .nils, .nils, .int .i64 0], .cells [.int .i64 (perL b l d m hs t), .int .i64 (-1), .b (¬ ((perL b l d m hs t) ∈ z)), .own (.int .i64) 3, .own (.int .i64) 4, .own (.int .i64) 5], .row true (.int .i64) ((z.take k).filter (wpP b l d t)), .row true (.int .i64) ((z.take k).filter (ltP b l d t)), .row true (.int .i64) ((z.take k).filter (eaP b d t))], ⟨rfl, z.length, 0, by omega, by omega, rfl, rfl⟩, ?_⟩
              rintro n vs H ⟨k, hc3_0, rfl, rfl, rfl⟩
              have hq0 : k < z.length → 0 ≤ z.getD k 0 ∧ z.getD k 0 ≤ cntL b l d - 1 := hg_at _ z _ k hgo
              have l1 := filter_take_len (wpP b l d t) z k
              have l2 := filter_take_len (ltP b l d t) z k
              have l3 := filter_take_len (eaP b d t) z k
              have f1 : k < z.length → (spanT b l d (z.getD k 0)) < t → (z.take (k + 1)).filter (wpP b l d t) = (z.take k).filter (wpP b l d t) ++ [z.getD k 0] := fun h g => filter_yes 0 _ z k h (decide_eq_true g)
              have f2 : k < z.length → ¬ ((spanT b l d (z.getD k 0)) < t) → (z.take (k + 1)).filter (wpP b l d t) = (z.take k).filter (wpP b l d t) := fun h g => filter_no 0 _ z k h (decide_eq_false g)
              have f3 : k < z.length → (expT b l d (z.getD k 0)) < t → (z.take (k + 1)).filter (ltP b l d t) = (z.take k).filter (ltP b l d t) ++ [z.getD k 0] := fun h g => filter_yes 0 _ z k h (decide_eq_true g)
              have f4 : k < z.length → ¬ ((expT b l d (z.getD k 0)) < t) → (z.take (k + 1)).filter (ltP b l d t) = (z.take k).filter (ltP b l d t) := fun h g => filter_no 0 _ z k h (decide_eq_false g)
              have f5 : k < z.length → t < (expF b d (z.getD k 0)) → (z.take (k + 1)).filter (eaP b d t) = (z.take k).filter (eaP b d t) ++ [z.getD k 0] := fun h g => filter_yes 0 _ z k h (decide_eq_true g)
              have f6 : k < z.length → ¬ (t < (expF b d (z.getD k 0))) → (z.take (k + 1)).filter (eaP b d t) = (z.take k).filter (eaP b d t) := fun h g => filter_no 0 _ z k h (decide_eq_false g)
              refine ⟨fun h62 => ?_, fun h62 => ?_⟩
              · replace h62 : (k : Int) < (z.length : Int) := h62  -- 62t
                obtain ⟨qz1, qz2⟩ := hq0 (by omega)
                have ea : askL b l d m hs (z.getD k 0) = 0 := hc.ask (by omega) (by omega)
                refine ⟨by kernel_rfl /- o111 -/, ⟨by show (0 : Int) ≤ (k : Int); omega, by show (k : Int) < (z.length : Int); omega⟩ /- o112 -/, rfl /- o113 -/, rfl /- o114 -/, rfl /- o115 -/, rfl /- o116 -/, rfl /- o117 -/, by show hs.length ≤ 2000000; first | omega | assumption /- o118 -/, ⟨rfl, rfl, rfl, Nat.le_of_ble_eq_true rfl⟩ /- o119 -/, by kernel_rfl /- o120 -/, ⟨by show (0 : Int) ≤ (k : Int); omega, by show (k : Int) < (z.length : Int); omega⟩ /- o121 -/, rfl /- o122 -/, rfl /- o123 -/, rfl /- o124 -/, rfl /- o125 -/, rfl /- o126 -/, by show hs.length ≤ 2000000; first | omega | assumption /- o127 -/, ⟨rfl, rfl, rfl, Nat.le_of_ble_eq_true rfl⟩ /- o128 -/, fun h63 => ?_, fun h63 => ?_⟩
                · replace h63 : (if askL b l d m hs (z.getD k 0) = 0 then spanT b l d (z.getD k 0) else 0) < t := h63  -- 63t
                  rw [if_pos ea] at h63
                  refine ⟨by kernel_rfl /- o129 -/, ⟨by show (0 : Int) ≤ (k : Int); omega, by show (k : Int) < (z.length : Int); omega⟩ /- o130 -/, rfl /- o131 -/, ⟨rfl, rfl⟩ /- o132 -/, by show ((z.take k).filter (wpP b l d t)).length + ([z.getD k 0] : List Int).length ≤ 1000000000; simp only [List.length_cons, List.length_nil]; omega /- o133 -/, ⟨rfl, rfl, rfl⟩ /- o134 -/, fun h64 => ?_, fun h64 => ?_⟩
                  · replace h64 : (if askL b l d m hs (z.getD k 0) = 0 then expT b l d (z.getD k 0) else 0) < t := h64  -- 64t
                    rw [if_pos ea] at h64
                    refine ⟨by kernel_rfl /- o135 -/, ⟨by show (0 : Int) ≤ (k : Int); omega, by show (k : Int) < (z.length : Int); omega⟩ /- o136 -/, rfl /- o137 -/, ⟨rfl, rfl⟩ /- o138 -/, by show ((z.take k).filter (ltP b l d t)).length + ([z.getD k 0] : List Int).length ≤ 1000000000; simp only [List.length_cons, List.length_nil]; omega /- o139 -/, ⟨rfl, rfl, rfl⟩ /- o140 -/, fun h65 => ?_, fun h65 => ?_⟩
                    · replace h65 : t < (if askL b l d m hs (z.getD k 0) = 0 then expF b d (z.getD k 0) else 0) := h65  -- 65t
                      rw [if_pos ea] at h65
                      refine ⟨by kernel_rfl /- o141 -/, ⟨by show (0 : Int) ≤ (k : Int); omega, by show (k : Int) < (z.length : Int); omega⟩ /- o142 -/, rfl /- o143 -/, ⟨rfl, rfl⟩ /- o144 -/, by show ((z.take k).filter (eaP b d t)).length + ([z.getD k 0] : List Int).length ≤ 1000000000; simp only [List.length_cons, List.length_nil]; omega /- o145 -/, ⟨rfl, rfl, rfl⟩ /- o146 -/, ⟨by show (-9223372036854775808 : Int) ≤ ((k : Int) + 1); omega, by show ((k : Int) + 1) ≤ (9223372036854775807 : Int); omega⟩ /- o147 -/, ?_⟩
                      exact ⟨rfl, z.length - (k + 1), by omega, k + 1, by omega, rfl, rfl, by (first | rw [f1 (by omega) (by assumption)] | rw [f2 (by omega) (by assumption)]); (first | rw [f3 (by omega) (by assumption)] | rw [f4 (by omega) (by assumption)]); (first | rw [f5 (by omega) (by assumption)] | rw [f6 (by omega) (by assumption)]); rfl⟩
                    · replace h65 : ¬ (t < (if askL b l d m hs (z.getD k 0) = 0 then expF b d (z.getD k 0) else 0)) := h65  -- 65f
                      rw [if_pos ea] at h65
                      refine ⟨⟨by show (-9223372036854775808 : Int) ≤ ((k : Int) + 1); omega, by show ((k : Int) + 1) ≤ (9223372036854775807 : Int); omega⟩ /- o148 -/, ?_⟩
                      exact ⟨rfl, z.length - (k + 1), by omega, k + 1, by omega, rfl, rfl, by (first | rw [f1 (by omega) (by assumption)] | rw [f2 (by omega) (by assumption)]); (first | rw [f3 (by omega) (by assumption)] | rw [f4 (by omega) (by assumption)]); (first | rw [f5 (by omega) (by assumption)] | rw [f6 (by omega) (by assumption)]); rfl⟩
                  · replace h64 : ¬ ((if askL b l d m hs (z.getD k 0) = 0 then expT b l d (z.getD k 0) else 0) < t) := h64  -- 64f
                    rw [if_pos ea] at h64
                    refine ⟨fun h66 => ?_, fun h66 => ?_⟩
                    · replace h66 : t < (if askL b l d m hs (z.getD k 0) = 0 then expF b d (z.getD k 0) else 0) := h66  -- 66t
                      rw [if_pos ea] at h66
                      refine ⟨by kernel_rfl /- o149 -/, ⟨by show (0 : Int) ≤ (k : Int); omega, by show (k : Int) < (z.length : Int); omega⟩ /- o150 -/, rfl /- o151 -/, ⟨rfl, rfl⟩ /- o152 -/, by show ((z.take k).filter (eaP b d t)).length + ([z.getD k 0] : List Int).length ≤ 1000000000; simp only [List.length_cons, List.length_nil]; omega /- o153 -/, ⟨rfl, rfl, rfl⟩ /- o154 -/, ⟨by show (-9223372036854775808 : Int) ≤ ((k : Int) + 1); omega, by show ((k : Int) + 1) ≤ (9223372036854775807 : Int); omega⟩ /- o155 -/, ?_⟩
                      exact ⟨rfl, z.length - (k + 1), by omega, k + 1, by omega, rfl, rfl, by (first | rw [f1 (by omega) (by assumption)] | rw [f2 (by omega) (by assumption)]); (first | rw [f3 (by omega) (by assumption)] | rw [f4 (by omega) (by assumption)]); (first | rw [f5 (by omega) (by assumption)] | rw [f6 (by omega) (by assumption)]); rfl⟩
                    · replace h66 : ¬ (t < (if askL b l d m hs (z.getD k 0) = 0 then expF b d (z.getD k 0) else 0)) := h66  -- 66f
                      rw [if_pos ea] at h66
                      refine ⟨⟨by show (-9223372036854775808 : Int) ≤ ((k : Int) + 1); omega, by show ((k : Int) + 1) ≤ (9223372036854775807 : Int); omega⟩ /- o156 -/, ?_⟩
                      exact ⟨rfl, z.length - (k + 1), by omega, k + 1, by omega, rfl, rfl, by (first | rw [f1 (by omega) (by assumption)] | rw [f2 (by omega) (by assumption)]); (first | rw [f3 (by omega) (by assumption)] | rw [f4 (by omega) (by assumption)]); (first | rw [f5 (by omega) (by assumption)] | rw [f6 (by omega) (by assumption)]); rfl⟩
                · replace h63 : ¬ ((if askL b l d m hs (z.getD k 0) = 0 then spanT b l d (z.getD k 0) else 0) < t) := h63  -- 63f
                  rw [if_pos ea] at h63
                  refine ⟨fun h67 => ?_, fun h67 => ?_⟩
                  · replace h67 : (if askL b l d m hs (z.getD k 0) = 0 then expT b l d (z.getD k 0) else 0) < t := h67  -- 67t
                    rw [if_pos ea] at h67
                    refine ⟨by kernel_rfl /- o157 -/, ⟨by show (0 : Int) ≤ (k : Int); omega, by show (k : Int) < (z.length : Int); omega⟩ /- o158 -/, rfl /- o159 -/, ⟨rfl, rfl⟩ /- o160 -/, by show ((z.take k).filter (ltP b l d t)).length + ([z.getD k 0] : List Int).length ≤ 1000000000; simp only [List.length_cons, List.length_nil]; omega /- o161 -/, ⟨rfl, rfl, rfl⟩ /- o162 -/, fun h68 => ?_, fun h68 => ?_⟩
                    · replace h68 : t < (if askL b l d m hs (z.getD k 0) = 0 then expF b d (z.getD k 0) else 0) := h68  -- 68t
                      rw [if_pos ea] at h68
                      refine ⟨by kernel_rfl /- o163 -/, ⟨by show (0 : Int) ≤ (k : Int); omega, by show (k : Int) < (z.length : Int); omega⟩ /- o164 -/, rfl /- o165 -/, ⟨rfl, rfl⟩ /- o166 -/, by show ((z.take k).filter (eaP b d t)).length + ([z.getD k 0] : List Int).length ≤ 1000000000; simp only [List.length_cons, List.length_nil]; omega /- o167 -/, ⟨rfl, rfl, rfl⟩ /- o168 -/, ⟨by show (-9223372036854775808 : Int) ≤ ((k : Int) + 1); omega, by show ((k : Int) + 1) ≤ (9223372036854775807 : Int); omega⟩ /- o169 -/, ?_⟩
                      exact ⟨rfl, z.length - (k + 1), by omega, k + 1, by omega, rfl, rfl, by (first | rw [f1 (by omega) (by assumption)] | rw [f2 (by omega) (by assumption)]); (first | rw [f3 (by omega) (by assumption)] | rw [f4 (by omega) (by assumption)]); (first | rw [f5 (by omega) (by assumption)] | rw [f6 (by omega) (by assumption)]); rfl⟩
                    · replace h68 : ¬ (t < (if askL b l d m hs (z.getD k 0) = 0 then expF b d (z.getD k 0) else 0)) := h68  -- 68f
                      rw [if_pos ea] at h68
                      refine ⟨⟨by show (-9223372036854775808 : Int) ≤ ((k : Int) + 1); omega, by show ((k : Int) + 1) ≤ (9223372036854775807 : Int); omega⟩ /- o170 -/, ?_⟩
                      exact ⟨rfl, z.length - (k + 1), by omega, k + 1, by omega, rfl, rfl, by (first | rw [f1 (by omega) (by assumption)] | rw [f2 (by omega) (by assumption)]); (first | rw [f3 (by omega) (by assumption)] | rw [f4 (by omega) (by assumption)]); (first | rw [f5 (by omega) (by assumption)] | rw [f6 (by omega) (by assumption)]); rfl⟩
                  · replace h67 : ¬ ((if askL b l d m hs (z.getD k 0) = 0 then expT b l d (z.getD k 0) else 0) < t) := h67  -- 67f
                    rw [if_pos ea] at h67
                    refine ⟨fun h69 => ?_, fun h69 => ?_⟩
                    · replace h69 : t < (if askL b l d m hs (z.getD k 0) = 0 then expF b d (z.getD k 0) else 0) := h69  -- 69t
                      rw [if_pos ea] at h69
                      refine ⟨by kernel_rfl /- o171 -/, ⟨by show (0 : Int) ≤ (k : Int); omega, by show (k : Int) < (z.length : Int); omega⟩ /- o172 -/, rfl /- o173 -/, ⟨rfl, rfl⟩ /- o174 -/, by show ((z.take k).filter (eaP b d t)).length + ([z.getD k 0] : List Int).length ≤ 1000000000; simp only [List.length_cons, List.length_nil]; omega /- o175 -/, ⟨rfl, rfl, rfl⟩ /- o176 -/, ⟨by show (-9223372036854775808 : Int) ≤ ((k : Int) + 1); omega, by show ((k : Int) + 1) ≤ (9223372036854775807 : Int); omega⟩ /- o177 -/, ?_⟩
                      exact ⟨rfl, z.length - (k + 1), by omega, k + 1, by omega, rfl, rfl, by (first | rw [f1 (by omega) (by assumption)] | rw [f2 (by omega) (by assumption)]); (first | rw [f3 (by omega) (by assumption)] | rw [f4 (by omega) (by assumption)]); (first | rw [f5 (by omega) (by assumption)] | rw [f6 (by omega) (by assumption)]); rfl⟩
                    · replace h69 : ¬ (t < (if askL b l d m hs (z.getD k 0) = 0 then expF b d (z.getD k 0) else 0)) := h69  -- 69f
                      rw [if_pos ea] at h69
                      refine ⟨⟨by show (-9223372036854775808 : Int) ≤ ((k : Int) + 1); omega, by show ((k : Int) + 1) ≤ (9223372036854775807 : Int); omega⟩ /- o178 -/, ?_⟩
                      exact ⟨rfl, z.length - (k + 1), by omega, k + 1, by omega, rfl, rfl, by (first | rw [f1 (by omega) (by assumption)] | rw [f2 (by omega) (by assumption)]); (first | rw [f3 (by omega) (by assumption)] | rw [f4 (by omega) (by assumption)]); (first | rw [f5 (by omega) (by assumption)] | rw [f6 (by omega) (by assumption)]); rfl⟩
              · replace h62 : ¬ ((k : Int) < (z.length : Int)) := h62  -- 62f
                refine ⟨⟨rfl, rfl, rfl, Nat.le_of_ble_eq_true rfl⟩ /- o179 -/, ?_⟩
                -- leaf 6: [] | ['.cells [.int .i64 b, .int .i64 l, .int .i64 d, .int .i64 m, .sl false (.int .i64) hs]', '.cells [.int .i64 (perL b l d m hs t), .int .i64 (-1), .b (¬ ((perL b l d m hs t) ∈ z)), .own (.int .i64) 3, .own (.int .i64) 4, .own (.int .i64) 5, .int .i64 0]', '.cells [.int .i64 (perL b l d m hs t), .int .i64 (-1), .b (¬ ((perL b l d m hs t) ∈ z)), .own (.int .i64) 3, .own (.int .i64) 4, .own (.int .i64) 5]', '.row true (.int .i64) ((z.take k).filter (wpP b l d t))', '.row true (.int .i64) ((z.take k).filter (ltP b l d t))', '.row true (.int .i64) ((z.take k).filter (eaP b d t))']
                have hk : k = z.length := by omega
                have eY : lokY b l d m hs z t = -1 := by unfold lokY; rw [if_pos e0]; exact if_neg (fun h => h51 h.2)
                have eL : (lokL b l d m hs z t) = (¬ (perL b l d m hs t ∈ z)) := (propext ⟨fun h => ⟨e0, h50, h⟩, fun h => h.2.2⟩).symm
                rw [e0, eW, eT, eR, eM, eY, eL, hk, List.take_length]
                exact ⟨rfl, rfl, rfl, rfl⟩
          · replace h50 : ¬ (0 ≤ (perL b l d m hs t)) := h50  -- 50f
            refine ⟨rfl /- o180 -/, by show z.length ≤ 2000000; first | omega | assumption /- o181 -/, fun h70 => absurd h70 (show ¬ (0 ≤ (perL b l d m hs t)) by first | omega | assumption | simp_all), fun h70 => ?_⟩
            refine ⟨⟨rfl, rfl, rfl⟩ /- o182 -/, 6, [(1, .k), (2, .k), (3, .k), (6, .k), (10, .c [(3, (.int .i64)), (4, (.int .i64)), (5, (.int .i64))]), (12, .k)], fun n vs H => ∃ (k : Nat), k ≤ z.length ∧ n = z.length - k ∧ vs = [.sl false (.int .i64) z, .int .i64 t, .ptr 0 1 0 0, .ptr 1 1 0 0, .ptr 2 1 0 0, .int .i64 (k : Int)] ∧ H = [.cells [.int .i64 b, .int .i64 l, .int .i64 d, .int .i64 m, .sl false (.int .i64) hs], .cells [.int .i64 0, .int .i64 0, .b False, .nils, .nils, .nils, .int .i64 0], .cells [.int .i64 (perL b l d m hs t), .int .i64 (-1), .b (false = true), .own (.int .i64) 3, .own (.int .i64) 4, .own (.int .i64) 5], .row true (.int .i64) ((z.take k).filter (wpP b l d t)), .row true (.int .i64) ((z.take k).filter (ltP b l d t)), .row true (.int .i64) ((z.take k).filter (eaP b d t))], ⟨rfl, z.length, 0, by omega, by omega, rfl, rfl⟩, ?_⟩
            rintro n vs H ⟨k, hc4_0, rfl, rfl, rfl⟩
            have hq0 : k < z.length → 0 ≤ z.getD k 0 ∧ z.getD k 0 ≤ cntL b l d - 1 := hg_at _ z _ k hgo
            have l1 := filter_take_len (wpP b l d t) z k
            have l2 := filter_take_len (ltP b l d t) z k
            have l3 := filter_take_len (eaP b d t) z k
            have f1 : k < z.length → (spanT b l d (z.getD k 0)) < t → (z.take (k + 1)).filter (wpP b l d t) = (z.take k).filter (wpP b l d t) ++ [z.getD k 0] := fun h g => filter_yes 0 _ z k h (decide_eq_true g)
            have f2 : k < z.length → ¬ ((spanT b l d (z.getD k 0)) < t) → (z.take (k + 1)).filter (wpP b l d t) = (z.take k).filter (wpP b l d t) := fun h g => filter_no 0 _ z k h (decide_eq_false g)
            have f3 : k < z.length → (expT b l d (z.getD k 0)) < t → (z.take (k + 1)).filter (ltP b l d t) = (z.take k).filter (ltP b l d t) ++ [z.getD k 0] := fun h g => filter_yes 0 _ z k h (decide_eq_true g)
            have f4 : k < z.length → ¬ ((expT b l d (z.getD k 0)) < t) → (z.take (k + 1)).filter (ltP b l d t) = (z.take k).filter (ltP b l d t) := fun h g => filter_no 0 _ z k h (decide_eq_false g)
            have f5 : k < z.length → t < (expF b d (z.getD k 0)) → (z.take (k + 1)).filter (eaP b d t) = (z.take k).filter (eaP b d t) ++ [z.getD k 0] := fun h g => filter_yes 0 _ z k h (decide_eq_true g)
            have f6 : k < z.length → ¬ (t < (expF b d (z.getD k 0))) → (z.take (k + 1)).filter (eaP b d t) = (z.take k).filter (eaP b d t) := fun h g => filter_no 0 _ z k h (decide_eq_false g)
            refine ⟨fun h71 => ?_, fun h71 => ?_⟩
            · replace h71 : (k : Int) < (z.length : Int) := h71  -- 71t
              obtain ⟨qz1, qz2⟩ := hq0 (by omega)
              have ea : askL b l d m hs (z.getD k 0) = 0 := hc.ask (by omega) (by omega)
              refine ⟨by kernel_rfl /- o183 -/, ⟨by show (0 : Int) ≤ (k : Int); omega, by show (k : Int) < (z.length : Int); omega⟩ /- o184 -/, rfl /- o185 -/, rfl /- o186 -/, rfl /- o187 -/, rfl /- o188 -/, rfl /- o189 -/, by show hs.length ≤ 2000000; first | omega | assumption /- o190 -/, ⟨rfl, rfl, rfl, Nat.le_of_ble_eq_true rfl⟩ /- o191 -/, by kernel_rfl /- o192 -/, ⟨by show (0 : Int) ≤ (k : Int); omega, by show (k : Int) < (z.length : Int); omega⟩ /- o193 -/, rfl /- o194 -/, rfl /- o195 -/, rfl /- o196 -/, rfl /- o197 -/, rfl /- o198 -/, by show hs.length ≤ 2000000; first | omega | assumption /- o199 -/, ⟨rfl, rfl, rfl, Nat.le_of_ble_eq_true rfl⟩ /- o200 -/, fun h72 => ?_, fun h72 => ?_⟩
              · replace h72 : (if askL b l d m hs (z.getD k 0) = 0 then spanT b l d (z.getD k 0) else 0) < t := h72  -- 72t
                rw [if_pos ea] at h72
                refine ⟨by kernel_rfl /- o201 -/, ⟨by show (0 : Int) ≤ (k : Int); omega, by show (k : Int) < (z.length : Int); omega⟩ /- o202 -/, rfl /- o203 -/, ⟨rfl, rfl⟩ /- o204 -/, by show ((z.take k).filter (wpP b l d t)).length + ([z.getD k 0] : List Int).length ≤ 1000000000; simp only [List.length_cons, List.length_nil]; omega /- o205 -/, ⟨rfl, rfl, rfl⟩ /- o206 -/, fun h73 => ?_, fun h73 => ?_⟩
                · replace h73 : (if askL b l d m hs (z.getD k 0) = 0 then expT b l d (z.getD k 0) else 0) < t := h73  -- 73t
                  rw [if_pos ea] at h73
                  refine ⟨by kernel_rfl /- o207 -/, ⟨by show (0 : Int) ≤ (k : Int); omega, by show (k : Int) < (z.length : Int); omega⟩ /- o208 -/, rfl /- o209 -/, ⟨rfl, rfl⟩ /- o210 -/, by show ((z.take k).filter (ltP b l d t)).length + ([z.getD k 0] : List Int).length ≤ 1000000000; simp only [List.length_cons, List.length_nil]; omega /- o211 -/, ⟨rfl, rfl, rfl⟩ /- o212 -/, fun h74 => ?_, fun h74 => ?_⟩
                  · replace h74 : t < (if askL b l d m hs (z.getD k 0) = 0 then expF b d (z.getD k 0) else 0) := h74  -- 74t
                    rw [if_pos ea] at h74
                    refine ⟨by kernel_rfl /- o213 -/, ⟨by show (0 : Int) ≤ (k : Int); omega, by show (k : Int) < (z.length : Int); omega⟩ /- o214 -/, rfl /- o215 -/, ⟨rfl, rfl⟩ /- o216 -/, by show ((z.take k).filter (eaP b d t)).length + ([z.getD k 0] : List Int).length ≤ 1000000000; simp only [List.length_cons, List.length_nil]; omega /- o217 -/, ⟨rfl, rfl, rfl⟩ /- o218 -/, ⟨by show (-9223372036854775808 : Int) ≤ ((k : Int) + 1); omega, by show ((k : Int) + 1) ≤ (9223372036854775807 : Int); omega⟩ /- o219 -/, ?_⟩
                    exact ⟨rfl, z.length - (k + 1), by omega, k + 1, by omega, rfl, rfl, by (first | rw [f1 (by omega) (by assumption)] | rw [f2 (by omega) (by assumption)]); (first | rw [f3 (by omega) (by assumption)] | rw [f4 (by omega) (by assumption)]); (first | rw [f5 (by omega) (by assumption)] | rw [f6 (by omega) (by assumption)]); rfl⟩
                  · replace h74 : ¬ (t < (if askL b l d m hs (z.getD k 0) = 0 then expF b d (z.getD k 0) else 0)) := h74  -- 74f
                    rw [if_pos ea] at h74
                    refine ⟨⟨by show (-9223372036854775808 : Int) ≤ ((k : Int) + 1); omega, by show ((k : Int) + 1) ≤ (9223372036854775807 : Int); omega⟩ /- o220 -/, ?_⟩
                    exact ⟨rfl, z.length - (k + 1), by omega, k + 1, by omega, rfl, rfl, by (first | rw [f1 (by omega) (by assumption)] | rw [f2 (by omega) (by assumption)]); (first | rw [f3 (by omega) (by assumption)] | rw [f4 (by omega) (by assumption)]); (first | rw [f5 (by omega) (by assumption)] | rw [f6 (by omega) (by assumption)]); rfl⟩
                · replace h73 : ¬ ((if askL b l d m hs (z.getD k 0) = 0 then expT b l d (z.getD k 0) else 0) < t) := h73  -- 73f
                  rw [if_pos ea] at h73
                  refine ⟨fun h75 => ?_, fun h75 => ?_⟩
                  · replace h75 : t < (if askL b l d m hs (z.getD k 0) = 0 then expF b d (z.getD k 0) else 0) := h75  -- 75t
                    rw [if_pos ea] at h75
                    refine ⟨by kernel_rfl /- o221 -/, ⟨by show (0 : Int) ≤ (k : Int); omega, by show (k : Int) < (z.length : Int); omega⟩ /- o222 -/, rfl /- o223 -/, ⟨rfl, rfl⟩ /- o224 -/, by show ((z.take k).filter (eaP b d t)).length + ([z.getD k 0] : List Int).length ≤ 1000000000; simp only [List.length_cons, List.length_nil]; omega /- o225 -/, ⟨rfl, rfl, rfl⟩ /- o226 -/, ⟨by show (-9223372036854775808 : Int) ≤ ((k : Int) + 1); omega, by show ((k : Int) + 1) ≤ (9223372036854775807 : Int); omega⟩ /- o227 -/, ?_⟩
                    exact ⟨rfl, z.length - (k + 1), by omega, k + 1, by omega, rfl, rfl, by (first | rw [f1 (by omega) (by assumption)] | rw [f2 (by omega) (by assumption)]); (first | rw [f3 (by omega) (by assumption)] | rw [f4 (by omega) (by assumption)]); (first | rw [f5 (by omega) (by assumption)] | rw [f6 (by omega) (by assumption)]); rfl⟩
                  · replace h75 : ¬ (t < (if askL b l d m hs (z.getD k 0) = 0 then expF b d (z.getD k 0) else 0)) := h75  -- 75f
                    rw [if_pos ea] at h75
                    refine ⟨⟨by show (-9223372036854775808 : Int) ≤ ((k : Int) + 1); omega, by show ((k : Int) + 1) ≤ (9223372036854775807 : Int); omega⟩ /- o228 -/, ?_⟩
                    exact ⟨rfl, z.length - (k + 1), by omega, k + 1, by omega, rfl, rfl, by (first | rw [f1 (by omega) (by assumption)] | rw [f2 (by omega) (by assumption)]); (first | rw [f3 (by omega) (by assumption)] | rw [f4 (by omega) (by assumption)]); (first | rw [f5 (by omega) (by assumption)] | rw [f6 (by omega) (by assumption)]); rfl⟩
              · replace h72 : ¬ ((if askL b l d m hs (z.getD k 0) = 0 then spanT b l d (z.getD k 0) else 0) < t) := h72  -- 72f
                rw [if_pos ea] at h72
                refine ⟨fun h76 => ?_, fun h76 => ?_⟩
                · replace h76 : (if askL b l d m hs (z.getD k 0) = 0 then expT b l d (z.getD k 0) else 0) < t := h76  -- 76t
                  rw [if_pos ea] at h76
                  refine ⟨by kernel_rfl /- o229 -/, ⟨by show (0 : Int) ≤ (k : Int); omega, by show (k : Int) < (z.length : Int); omega⟩ /- o230 -/, rfl /- o231 -/, ⟨rfl, rfl⟩ /- o232 -/, by show ((z.take k).filter (ltP b l d t)).length + ([z.getD k 0] : List Int).length ≤ 1000000000; simp only [List.length_cons, List.length_nil]; omega /- o233 -/, ⟨rfl, rfl, rfl⟩ /- o234 -/, fun h77 => ?_, fun h77 => ?_⟩
                  · replace h77 : t < (if askL b l d m hs (z.getD k 0) = 0 then expF b d (z.getD k 0) else 0) := h77  -- 77t
                    rw [if_pos ea] at h77
                    refine ⟨by kernel_rfl /- o235 -/, ⟨by show (0 : Int) ≤ (k : Int); omega, by show (k : Int) < (z.length : Int); omega⟩ /- o236 -/, rfl /- o237 -/, ⟨rfl, rfl⟩ /- o238 -/, by show ((z.take k).filter (eaP b d t)).length + ([z.getD k 0] : List Int).length ≤ 1000000000; simp only [List.length_cons, List.length_nil]; omega /- o239 -/, ⟨rfl, rfl, rfl⟩ /- o240 -/, ⟨by show (-9223372036854775808 : Int) ≤ ((k : Int) + 1); omega, by show ((k : Int) + 1) ≤ (9223372036854775807 : Int); omega⟩ /- o241 -/, ?_⟩
                    exact ⟨rfl, z.length - (k + 1), by omega, k + 1, by omega, rfl, rfl, by (first | rw [f1 (by omega) (by assumption)] | rw [f2 (by omega) (by assumption)]); (first | rw [f3 (by omega) (by assumption)] | rw [f4 (by omega) (by assumption)]); (first | rw [f5 (by omega) (by assumption)] | rw [f6 (by omega) (by assumption)]); rfl⟩
                  · replace h77 : ¬ (t < (if askL b l d m hs (z.getD k 0) = 0 then expF b d (z.getD k 0) else 0)) := h77  -- 77f
                    rw [if_pos ea] at h77
                    refine ⟨⟨by show (-9223372036854775808 : Int) ≤ ((k : Int) + 1); omega, by show ((k : Int) + 1) ≤ (9223372036854775807 : Int); omega⟩ /- o242 -/, ?_⟩
                    exact ⟨rfl, z.length - (k + 1), by omega, k + 1, by omega, rfl, rfl, by (first | rw [f1 (by omega) (by assumption)] | rw [f2 (by omega) (by assumption)]); (first | rw [f3 (by omega) (by assumption)] | rw [f4 (by omega) (by assumption)]); (first | rw [f5 (by omega) (by assumption)] | rw [f6 (by omega) (by assumption)]); rfl⟩
                · replace h76 : ¬ ((if askL b l d m hs (z.getD k 0) = 0 then expT b l d (z.getD k 0) else 0) < t) := h76  -- 76f
                  rw [if_pos ea] at h76
                  refine ⟨fun h78 => ?_, fun h78 => ?_⟩
                  · replace h78 : t < (if askL b l d m hs (z.getD k 0) = 0 then expF b d (z.getD k 0) else 0) := h78  -- 78t
                    rw [if_pos ea] at h78
                    refine ⟨by kernel_rfl /- o243 -/, ⟨by show (0 : Int) ≤ (k : Int); omega, by show (k : Int) < (z.length : Int); omega⟩ /- o244 -/, rfl /- o245 -/, ⟨rfl, rfl⟩ /- o246 -/, by show ((z.take k).filter (eaP b d t)).length + ([z.getD k 0] : List Int).length ≤ 1000000000; simp only [List.length_cons, List.length_nil]; omega /- o247 -/, ⟨rfl, rfl, rfl⟩ /- o248 -/, ⟨by show (-9223372036854775808 : Int) ≤ ((k : Int) + 1); omega, by show ((k : Int) + 1) ≤ (9223372036854775807 : Int); omega⟩ /- o249 -/, ?_⟩
                    exact ⟨rfl, z.length - (k + 1), by omega, k + 1, by omega, rfl, rfl, by (first | rw [f1 (by omega) (by assumption)] | rw [f2 (by omega) (by assumption)]); (first | rw [f3 (by omega) (by assumption)] | rw [f4 (by omega) (by assumption)]); (first | rw [f5 (by omega) (by assumption)] | rw [f6 (by omega) (by assumption)]); rfl⟩
                  · replace h78 : ¬ (t < (if askL b l d m hs (z.getD k 0) = 0 then expF b d (z.getD k 0) else 0)) := h78  -- 78f
                    rw [if_pos ea] at h78
                    refine ⟨⟨by show (-9223372036854775808 : Int) ≤ ((k : Int) + 1); omega, by show ((k : Int) + 1) ≤ (9223372036854775807 : Int); omega⟩ /- o250 -/, ?_⟩
                    exact ⟨rfl, z.length - (k + 1), by omega, k + 1, by omega, rfl, rfl, by (first | rw [f1 (by omega) (by assumption)] | rw [f2 (by omega) (by assumption)]); (first | rw [f3 (by omega) (by assumption)] | rw [f4 (by omega) (by assumption)]); (first | rw [f5 (by omega) (by assumption)] | rw [f6 (by omega) (by assumption)]); rfl⟩
            · replace h71 : ¬ ((k : Int) < (z.length : Int)) := h71  -- 71f
              refine ⟨⟨rfl, rfl, rfl, Nat.le_of_ble_eq_true rfl⟩ /- o251 -/, ?_⟩
              -- leaf 7: [] | ['.cells [.int .i64 b, .int .i64 l, .int .i64 d, .int .i64 m, .sl false (.int .i64) hs]', '.cells [.int .i64 (perL b l d m hs t), .int .i64 (-1), .b (false = true), .own (.int .i64) 3, .own (.int .i64) 4, .own (.int .i64) 5, .int .i64 0]', '.cells [.int .i64 (perL b l d m hs t), .int .i64 (-1), .b (false = true), .own (.int .i64) 3, .own (.int .i64) 4, .own (.int .i64) 5]', '.row true (.int .i64) ((z.take k).filter (wpP b l d t))', '.row true (.int .i64) ((z.take k).filter (ltP b l d t))', '.row true (.int .i64) ((z.take k).filter (eaP b d t))']
              have hk : k = z.length := by omega
              have eY : lokY b l d m hs z t = -1 := by unfold lokY; rw [if_pos e0]; exact if_neg (fun h => h50 h.1)
              have eL : (lokL b l d m hs z t) = (false = true) := (propext ⟨fun h => absurd h (by decide), fun h => absurd h.2.1 h50⟩).symm
              rw [e0, eW, eT, eR, eM, eY, eL, hk, List.take_length]
              exact ⟨rfl, rfl, rfl, rfl⟩
      · replace h48 : t < 0 := h48  -- 48t
        refine ⟨⟨rfl, rfl, rfl, Nat.le_of_ble_eq_true rfl⟩ /- o252 -/, ?_⟩
        -- leaf 8: [] | ['.cells [.int .i64 b, .int .i64 l, .int .i64 d, .int .i64 m, .sl false (.int .i64) hs]', '.cells [.int .i64 0, .int .i64 0, .b False, .nils, .nils, .nils, .int .i64 3]']
        have e0 : lokE b l d m hs z t = 3 := by unfold lokE; rw [if_pos (Classical.not_not.1 h0), if_pos hgo, if_neg (by omega)]
        have en : ¬ lokE b l d m hs z t = 0 := by rw [e0]; decide
        rw [e0, show lokM b l d m hs z t = 0 from if_neg en, show lokY b l d m hs z t = 0 from if_neg en, show lokW b l d m hs z t = [] from if_neg en, show lokT b l d m hs z t = [] from if_neg en, show lokR b l d m hs z t = [] from if_neg en, show lokL b l d m hs z t = False from propext ⟨fun h => en h.1, fun h => h.elim⟩]
        exact ⟨rfl, rfl, rfl, rfl⟩
def CRLok : List (Nat × Con) := (39, pureC [.v (.cons (.int .i64) (.cons (.int .i64) (.cons (.int .i64) (.cons (.int .i64) (.cons (.sl (.int .i64)) .nil))))), .v (.sl (.int .i64)), .v (.int .i64)] sRLok) :: CSan
theorem kRLok : Known Try.prog (En CRLok tys [] QAt) := kSan.add Try.func39 Try.call39 [.k, .k, .k, .o (.int .i64), .o (.int .i64), .o (.int .i64), .k] fun ds p v bs h hp => by
  unfold sRLok at h
  split at h <;> simp only [Option.some.injEq, Prod.mk.injEq, reduceCtorEq] at h
  obtain ⟨rfl, rfl, rfl⟩ := h
  exact bRLok _ _ _ _ _ _ _ hp.1 hp.2
end Go.Proofs.Ytgljcfnplkcfhaa.S29

namespace Go.Proofs.Ytgljcfnplkcfhaa.S29
open Go

/-! ### sets of houses, as sums over the list -/
def pwN (k : Nat) : Int := 2 ^ k
theorem pwN_succ (k : Nat) : 2 * pwN k = pwN (k + 1) := by unfold pwN; rw [Int.pow_succ]; omega
theorem pwN_bd : ∀ k, k ≤ 12 → 1 ≤ pwN k ∧ pwN k ≤ 4096 := by decide
theorem pwN_bd11 : ∀ k, k ≤ 11 → 1 ≤ pwN k ∧ pwN k ≤ 2048 := by decide
theorem pwN_nat (k : Nat) : pwN k = ((2 ^ k : Nat) : Int) := by simp [pwN]
def cpdB (l : List Cp) (h f t : Int) : Bool := l.any fun x => decide (x.1 = h ∧ f ≤ x.2.1 ∧ x.2.1 ≤ t)
def setS (f : Nat → Bool) : List Int → Int
  | [] => 0
  | h :: t => (if f h.toNat = true then pwN h.toNat else 0) + setS f t
def cntS (f : Nat → Bool) : List Int → Nat
  | [] => 0
  | h :: t => (if f h.toNat = true then 1 else 0) + cntS f t
theorem setS_app (f : Nat → Bool) : ∀ a b : List Int, setS f (a ++ b) = setS f a + setS f b
  | [], b => by simp [setS]
  | h :: t, b => by rw [List.cons_append, setS, setS, setS_app f t b]; omega
theorem cntS_app (f : Nat → Bool) : ∀ a b : List Int, cntS f (a ++ b) = cntS f a + cntS f b
  | [], b => by simp [cntS]
  | h :: t, b => by rw [List.cons_append, cntS, cntS, cntS_app f t b]; omega
theorem setS_snoc (f : Nat → Bool) {l : List Int} {k : Nat} (hk : k < l.length) : setS f (l.take (k + 1)) = setS f (l.take k) + (if f (l.getD k 0).toNat = true then pwN (l.getD k 0).toNat else 0) := by
  rw [take_snoc 0 l k hk, setS_app, setS, setS]; omega
theorem cntS_snoc (f : Nat → Bool) {l : List Int} {k : Nat} (hk : k < l.length) : cntS f (l.take (k + 1)) = cntS f (l.take k) + (if f (l.getD k 0).toNat = true then 1 else 0) := by
  rw [take_snoc 0 l k hk, cntS_app, cntS, cntS]; omega
theorem cntS_le (f : Nat → Bool) : ∀ l : List Int, cntS f l ≤ l.length
  | [] => Nat.le_refl _
  | h :: t => by have := cntS_le f t; rw [cntS, List.length_cons]; split <;> omega
theorem hsF_all : ∀ (l : List Int) (p : Int), hsF p l = true → ∀ x ∈ l, p < x ∧ 0 ≤ x ∧ x ≤ 11
  | [], p, _, x, hx => by simp at hx
  | h :: t, p, hh, x, hx => by
    simp only [hsF, Bool.and_eq_true, decide_eq_true_eq] at hh
    rcases List.mem_cons.1 hx with rfl | hx
    · exact ⟨hh.1.2.2, hh.1.1, hh.1.2.1⟩
    · have := hsF_all t h hh.2 x hx
      omega
theorem setS_bd (f : Nat → Bool) : ∀ l : List Int, (∀ x ∈ l, 0 ≤ x ∧ x ≤ 11) → 0 ≤ setS f l ∧ setS f l ≤ 2048 * l.length
  | [], _ => by simp [setS]
  | h :: t, hh => by
    have h1 := setS_bd f t fun x hx => hh x (by simp [hx])
    have h2 := hh h (by simp)
    have h3 := pwN_bd11 h.toNat (by omega)
    rw [setS, List.length_cons]
    split <;> omega
theorem setF2_ins {f : Nat → Bool} {h : Nat} {b : Bool} (hf : f h = false) : ∀ k, h < k → setF2 (fun i => if i = h then b else f i) k = setF2 f k + (if b = true then 2 ^ h else 0)
  | 0, hk => by omega
  | k + 1, hk => by
    rw [setF2, setF2]
    by_cases e : h = k
    · subst e
      rw [setF2_congr (g := f) fun i hi => if_neg (by omega), if_pos rfl, hf]
      simp
    · rw [setF2_ins hf k (by omega), if_neg (show ¬ k = h by omega)]
      omega
theorem cntF_ins {f : Nat → Bool} {h : Nat} {b : Bool} (hf : f h = false) : ∀ k, h < k → cntF (fun i => if i = h then b else f i) k = cntF f k + (if b = true then 1 else 0)
  | 0, hk => by omega
  | k + 1, hk => by
    rw [cntF, cntF]
    by_cases e : h = k
    · subst e
      rw [cntF_congr (g := f) fun i hi => if_neg (by omega), if_pos rfl, hf]
      simp
    · rw [cntF_ins hf k (by omega), if_neg (show ¬ k = h by omega)]
      omega
theorem cons_ins {f : Nat → Bool} {h : Int} {t : List Int} (h0 : 0 ≤ h) (i : Nat) : ((h :: t).contains (i : Int) && f i) = if i = h.toNat then f h.toNat else (t.contains (i : Int) && f i) := by
  by_cases e : i = h.toNat
  · rw [if_pos e, e, show ((h.toNat : Nat) : Int) = h by omega]; simp
  · rw [if_neg e, List.contains_cons, show ((i : Int) == h) = false by simp; omega]; simp
theorem not_tail {f : Nat → Bool} {h : Int} {t : List Int} (h0 : 0 ≤ h) (hh : hsF h t = true) : (t.contains ((h.toNat : Nat) : Int) && f h.toNat) = false := by
  have : ¬ ((h.toNat : Nat) : Int) ∈ t := fun hm => by have := (hsF_all t h hh _ hm).1; omega
  rw [show t.contains ((h.toNat : Nat) : Int) = false by rw [← Bool.not_eq_true, List.contains_iff_mem]; exact this]; rfl
theorem setS_eq (f : Nat → Bool) : ∀ (l : List Int) (p : Int), hsF p l = true → setS f l = (setF2 (fun i => l.contains (i : Int) && f i) 12 : Int)
  | [], p, _ => by
    have : ∀ k, setF2 (fun i => ([] : List Int).contains (i : Int) && f i) k = 0 := fun k => by induction k with
      | zero => rfl
      | succ k ih => rw [setF2, ih]; simp
    rw [this]; rfl
  | h :: t, p, hh => by
    simp only [hsF, Bool.and_eq_true, decide_eq_true_eq] at hh
    rw [setF2_congr fun i _ => cons_ins (f := f) (t := t) hh.1.1 i, setF2_ins (not_tail hh.1.1 hh.2) 12 (by omega), setS, setS_eq f t h hh.2, pwN_nat]
    split <;> simp <;> omega
theorem cntS_eq (f : Nat → Bool) : ∀ (l : List Int) (p : Int), hsF p l = true → cntS f l = cntF (fun i => l.contains (i : Int) && f i) 12
  | [], p, _ => by
    have : ∀ k, cntF (fun i => ([] : List Int).contains (i : Int) && f i) k = 0 := fun k => by induction k with
      | zero => rfl
      | succ k ih => rw [cntF, ih]; simp
    rw [this]; rfl
  | h :: t, p, hh => by
    simp only [hsF, Bool.and_eq_true, decide_eq_true_eq] at hh
    rw [cntF_congr fun i _ => cons_ins (f := f) (t := t) hh.1.1 i, cntF_ins (not_tail hh.1.1 hh.2) 12 (by omega), cntS, cntS_eq f t h hh.2]
    omega
theorem setF2_bit (f : Nat → Bool) : ∀ (k h : Nat), h < k → Nat.testBit (setF2 f k) h = f h
  | 0, h, hk => by omega
  | k + 1, h, hk => by
    have hlt := setF2_lt f k
    rw [setF2]
    by_cases e : h = k
    · subst e
      split
      · rename_i hf
        rw [← setF2_or, Nat.testBit_or, Nat.testBit_lt_two_pow hlt, Nat.testBit_two_pow_self, hf]; rfl
      · rename_i hf
        rw [Nat.add_zero, Nat.testBit_lt_two_pow hlt]
        simpa using hf
    · split
      · rw [← setF2_or, Nat.testBit_or, Nat.testBit_two_pow_of_ne (by omega), Bool.or_false, setF2_bit f k h (by omega)]
      · rw [Nat.add_zero, setF2_bit f k h (by omega)]
theorem bitB_nat (n h : Nat) : bitB (n : Int) h = Nat.testBit n h := by
  unfold bitB
  rw [Nat.testBit_eq_decide_div_mod_eq]
  have : ((n : Int) / 2 ^ h % 2) = ((n / 2 ^ h % 2 : Nat) : Int) := by simp
  rw [this]
  simp only [decide_eq_decide]
  omega
theorem bitB_set (f : Nat → Bool) {h : Nat} (hh : h < 12) : bitB (setF2 f 12 : Int) h = f h := by rw [bitB_nat, setF2_bit f 12 h hh]
theorem bitB_zero (h : Nat) : bitB 0 h = false := by
  have := bitB_nat 0 h
  rw [Nat.zero_testBit] at this
  exact this
theorem cpd_cap (b l d : Int) (q h : Nat) (caps : List Cp) : cpdB caps (h : Int) (expF b d q) (expT b l d q) = caps.any (capIn b l d q h) := by
  unfold cpdB
  congr 1
  funext x
  unfold capIn exB
  rw [Bool.decide_and]
theorem sen_set {b l d m : Int} {hs : List Int} (hc : Cal b l d m hs) (caps : List Cp) (q : Nat) :
    setS (fun h => cpdB caps (h : Int) (expF b d q) (expT b l d q)) hs = (setF2 (seenC b l d hs 0 caps q) 12 : Int) := by
  rw [setS_eq _ hs (-1) hc.ho]
  congr 1
  exact setF2_congr fun i _ => by unfold seenC; rw [bitB_zero, Bool.false_or, cpd_cap]
theorem sen_set' {b l d m : Int} {hs : List Int} (hc : Cal b l d m hs) (caps : List Cp) {q : Int} (h0 : 0 ≤ q) :
    setS (fun h => cpdB caps (h : Int) (expF b d q) (expT b l d q)) hs = (setF2 (seenC b l d hs 0 caps q.toNat) 12 : Int) := by
  have e : ((q.toNat : Nat) : Int) = q := by omega
  rw [← sen_set hc caps q.toNat, e]
theorem sen_nonneg (b l d m hs caps q) : 0 ≤ senL b l d m hs caps q := by
  unfold senL
  split
  · exact Int.natCast_nonneg _
  · exact Int.le_refl _
theorem sen_val {b l d m : Int} {hs : List Int} (hc : Cal b l d m hs) {caps : List Cp} (h : capL caps = 0) {k : Nat} (hk : (k : Int) < cntL b l d) : senL b l d m hs caps k = (setF2 (seenC b l d hs 0 caps k) 12 : Int) :=
  if_pos ⟨hc.chk, h, hc.ask (by omega) hk⟩
theorem tel_many {b l d m : Int} {hs : List Int} (hc : Cal b l d m hs) (bad : Int) (caps : List Cp) (q : Nat) {x : Int} (hx : x = (setF2 (seenC b l d hs 0 caps q) 12 : Int)) :
    cntS (fun h => bitB bad h || bitB x h) hs = cntF (seenC b l d hs bad caps q) 12 := by
  rw [cntS_eq _ hs (-1) hc.ho, hx]
  refine cntF_congr fun i hi => ?_
  rw [bitB_set _ hi]
  unfold seenC
  rw [bitB_zero]
  cases hs.contains (i : Int) <;> simp
theorem knw_many {b l d m : Int} {hs : List Int} (hc : Cal b l d m hs) (bad : Int) : cntS (fun h => bitB bad h || bitB 0 h) hs = knwL b l d hs bad := by
  rw [cntS_eq _ hs (-1) hc.ho]
  refine cntF_congr fun i hi => ?_
  unfold seenC
  rw [bitB_zero]
  simp
theorem knw_le {b l d m : Int} {hs : List Int} (hc : Cal b l d m hs) (bad : Int) : knwL b l d hs bad ≤ hs.length := by
  rw [← knw_many hc]; exact cntS_le _ _
theorem any_take_no {α : Type} {d : α} {p : α → Bool} {l : List α} {k : Nat} (hk : k < l.length) (hc : (l.take k).any p = false) (h : p (l.getD k d) = false) : (l.take (k + 1)).any p = false := by
  rw [take_snoc d l k hk, List.any_append, hc]; simp only [List.any_cons, List.any_nil, h, Bool.or_false]
theorem any_yes {α : Type} {d : α} {p : α → Bool} {l : List α} {k : Nat} (hk : k < l.length) (h : p (l.getD k d) = true) : l.any p = true :=
  List.any_eq_true.2 ⟨_, getD_mem d l k hk, h⟩

theorem lokW_len (b l d m hs held t) : (lokW b l d m hs held t).length ≤ held.length := by
  unfold lokW; split
  · exact List.length_filter_le _ _
  · exact Nat.zero_le _
theorem lokT_len (b l d m hs held t) : (lokT b l d m hs held t).length ≤ held.length := by
  unfold lokT; split
  · exact List.length_filter_le _ _
  · exact Nat.zero_le _
theorem lokR_len (b l d m hs held t) : (lokR b l d m hs held t).length ≤ held.length := by
  unfold lokR; split
  · exact List.length_filter_le _ _
  · exact Nat.zero_le _
/-! ### windows -/
theorem win_in {b l d w : Int} {q : Nat} {j : Nat} (hw : 1 ≤ w) : expF b d q + j * w ≤ min (expT b l d q) 1000000 ↔ (j : Int) < winL b l d w q := by
  unfold winL
  rw [Int.lt_add_one_iff, Int.le_ediv_iff_mul_le (by omega)]
  omega
theorem win_end {len kn mo W : Int} {j : Nat} (hm : 0 ≤ mo) (hj : (j : Int) ≤ W) (hkn : kn ≤ len) (h : (j : Int) = W ∨ len ≤ min len (kn + mo * j)) : min len (kn + mo * j) = kn + min (len - kn) (mo * W) := by
  rcases h with h | h
  · rw [h]; omega
  · have := Int.mul_le_mul_of_nonneg_left hj hm
    omega
theorem mul_next (mo : Int) (j : Nat) : mo * ((j + 1 : Nat) : Int) = mo * j + mo := by
  rw [show ((j + 1 : Nat) : Int) = (j : Int) + 1 by omega, Int.mul_add, Int.mul_one]
theorem mul_next' (w : Int) (j : Nat) : ((j + 1 : Nat) : Int) * w = j * w + w := by
  rw [Int.mul_comm, mul_next, Int.mul_comm]
end Go.Proofs.Ytgljcfnplkcfhaa.S29

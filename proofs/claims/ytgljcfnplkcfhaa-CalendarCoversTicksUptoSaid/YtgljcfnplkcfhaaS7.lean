/- Texts of this claim: S29.L8. -/
import Derived.Test.YtgljcfnplkcfhaaS2
import Derived.Test.YtgljcfnplkcfhaaS6
set_option linter.unusedVariables false
set_option linter.unusedSimpArgs false
namespace Go.Proofs.Ytgljcfnplkcfhaa.S29
open Go Go.Proofs.Ytgljcfnplkcfhaa.Vc Go.Proofs
set_option maxRecDepth 100000
set_option linter.unusedVariables false

def sLCov : List V → Option (Prop × V × List Blk)
  | [.agg [.int .i64 b, .int .i64 l, .int .i64 d, .int .i64 m, .sl false (.int .i64) hs], .sl false .bool lk] => some (hs.length ≤ 1048576 ∧ lk.length ≤ 1048576, .b True, [])
  | _ => none
set_option maxHeartbeats 30000000 in
theorem bLCov (b : Int) (l : Int) (d : Int) (m : Int) (hs : List Int) (lk : List Bool) (hp0 : hs.length ≤ 1048576) (hp1 : lk.length ≤ 1048576) : bodyP (En CSan tys [] QAt [5000173, 5000214]) Try.f6 [.k] [.agg [.int .i64 b, .int .i64 l, .int .i64 d, .int .i64 m, .sl false (.int .i64) hs], .sl false .bool lk] (.b True) [] := by
  refine ⟨rfl, rfl, rfl, rfl, by show hs.length ≤ 2000000; first | omega | assumption, fun h0 => ?_, fun h0 => ?_⟩
  · replace h0 : ¬ ((chkL b l d m hs) ≠ 0) := h0
    have hc := chk0 (Classical.not_not.1 h0)
    have hnn : (if chkL b l d m hs = 0 then cntL b l d else 0) = cntL b l d := if_pos hc.chk
    have hb0 := hc.b0
    have hbl := hc.bl
    have hl1 := hc.l1
    have hcc := hc.c2
    refine ⟨rfl, rfl, rfl, rfl, rfl, by show hs.length ≤ 2000000; first | omega | assumption, fun h1 => ?_, fun h1 => ?_⟩
    · replace h1 : ¬ (¬ (fewP b l d m hs 60)) := h1
      refine ⟨⟨by show (-9223372036854775808 : Int) ≤ (l - b); omega, by show (l - b) ≤ (9223372036854775807 : Int); omega⟩, fun h2 => ?_, fun h2 => ?_⟩
      · replace h2 : ¬ (2000 < (l - b)) := h2
        refine ⟨fun h3 => ?_, fun h3 => ?_⟩
        · replace h3 : 999980 < l := h3
          refine ⟨trivial, ?_⟩
          exact ⟨rfl, rfl, congrArg V.b (propext ⟨fun _ => trivial, fun _ => by first | trivial | rfl⟩), rfl⟩
        · replace h3 : ¬ (999980 < l) := h3
          refine ⟨rfl, rfl, rfl, rfl, by show hs.length ≤ 2000000; first | omega | assumption, 1, [(1, .k), (2, .k), (5, .k), (49, .k), (50, .k)], fun nM vs H => ∃ (q : Nat), (q : Int) ≤ cntL b l d ∧ nM = (cntL b l d).toNat - q ∧ vs = [.sl false .bool lk, .ptr 0 1 0 0, .int .i64 (nxtL b l d q), .int .i64 (if chkL b l d m hs = 0 then cntL b l d else 0), .int .i64 (q : Int)] ∧ H = [.cells [.int .i64 b, .int .i64 l, .int .i64 d, .int .i64 m, .sl false (.int .i64) hs]], ⟨rfl, (cntL b l d).toNat, 0, by have := hc.c1; simp; omega, by omega, by rw [nxt_zero hc]; rfl, rfl⟩, ?_⟩
          rintro nM vs H ⟨q, hc1_0, rfl, rfl, rfl⟩
          refine ⟨fun h4 => ?_, fun h4 => ?_⟩
          · replace h4 : (q : Int) < (if chkL b l d m hs = 0 then cntL b l d else 0) := h4
            have hql : (q : Int) < cntL b l d := by rw [hnn] at h4; exact h4
            have ea : askL b l d m hs (q : Int) = 0 := hc.ask (by omega) hql
            have eF : (if askL b l d m hs (q : Int) = 0 then spanF b d (q : Int) else 0) = spanF b d (q : Int) := if_pos ea
            have eT : (if askL b l d m hs (q : Int) = 0 then spanT b l d (q : Int) else 0) = spanT b l d (q : Int) := if_pos ea
            have eA : (if askL b l d m hs (q : Int) = 0 then expF b d (q : Int) else 0) = expF b d (q : Int) := if_pos ea
            have eB : (if askL b l d m hs (q : Int) = 0 then expT b l d (q : Int) else 0) = expT b l d (q : Int) := if_pos ea
            have nx : nxtL b l d q = spanF b d (q : Int) := if_pos hql
            obtain ⟨w1, w2, w3, w4, w5, w6, w7⟩ := cov_span hc hql
            have eT1 : 0 ≤ (if askL b l d m hs (q : Int) = 0 then spanT b l d (q : Int) else 0) ∧ (if askL b l d m hs (q : Int) = 0 then spanT b l d (q : Int) else 0) ≤ l := by rw [eT]; exact ⟨w6, w7⟩
            refine ⟨rfl, rfl, rfl, rfl, rfl, by show hs.length ≤ 2000000; first | omega | assumption, rfl, rfl, rfl, rfl, rfl, by show hs.length ≤ 2000000; first | omega | assumption, fun h5 => ?_, fun h5 => absurd h5 (show ¬ ((askL b l d m hs (q : Int)) ≠ 0) by exact fun h => h ea)⟩
            clear h5
            refine ⟨fun h6 => ?_, fun h6 => ?_⟩
            · replace h6 : ¬ ((askL b l d m hs (q : Int)) ≠ 0) := h6
              refine ⟨fun h7 => ?_, fun h7 => absurd h7 (show ¬ ((if askL b l d m hs (q : Int) = 0 then spanF b d (q : Int) else 0) ≠ (nxtL b l d q)) by rw [eF, nx]; exact fun h => h rfl)⟩
              clear h7
              refine ⟨fun h8 => ?_, fun h8 => absurd h8 (show ¬ ((if askL b l d m hs (q : Int) = 0 then spanT b l d (q : Int) else 0) < (if askL b l d m hs (q : Int) = 0 then spanF b d (q : Int) else 0)) by rw [eF, eT]; omega)⟩
              clear h8
              refine ⟨fun h9 => ?_, fun h9 => absurd h9 (show ¬ ((if askL b l d m hs (q : Int) = 0 then spanF b d (q : Int) else 0) < (if askL b l d m hs (q : Int) = 0 then expF b d (q : Int) else 0)) by rw [eF, eA]; omega)⟩
              clear h9
              refine ⟨fun h10 => ?_, fun h10 => absurd h10 (show ¬ ((if askL b l d m hs (q : Int) = 0 then expT b l d (q : Int) else 0) < (if askL b l d m hs (q : Int) = 0 then spanT b l d (q : Int) else 0)) by rw [eB, eT]; omega)⟩
              clear h10
              refine ⟨rfl, rfl, rfl, rfl, rfl, by show hs.length ≤ 2000000; first | omega | assumption, fun h11 => ?_, fun h11 => absurd h11 (show ¬ ((perL b l d m hs (if askL b l d m hs (q : Int) = 0 then spanF b d (q : Int) else 0)) ≠ (q : Int)) by rw [eF]; exact fun h => h w4)⟩
              clear h11
              refine ⟨rfl, rfl, rfl, rfl, rfl, by show hs.length ≤ 2000000; first | omega | assumption, fun h12 => absurd h12 (show ¬ ((perL b l d m hs (if askL b l d m hs (q : Int) = 0 then spanT b l d (q : Int) else 0)) ≠ (q : Int)) by rw [eT]; exact fun h => h w5), fun h12 => ?_⟩
              clear h12
              refine ⟨⟨by show (-9223372036854775808 : Int) ≤ ((if askL b l d m hs (q : Int) = 0 then spanT b l d (q : Int) else 0) + 1); omega, by show ((if askL b l d m hs (q : Int) = 0 then spanT b l d (q : Int) else 0) + 1) ≤ (9223372036854775807 : Int); omega⟩, ⟨by show (-9223372036854775808 : Int) ≤ ((q : Int) + 1); omega, by show ((q : Int) + 1) ≤ (9223372036854775807 : Int); omega⟩, ?_⟩
              exact ⟨rfl, (cntL b l d).toNat - (q + 1), by omega, q + 1, by omega, rfl, by rw [eT, nxt_step hc hql]; rfl, rfl⟩
            · replace h6 : (askL b l d m hs (q : Int)) ≠ 0 := h6
              exact ⟨rfl, rfl, congrArg V.b (propext ⟨fun _ => trivial, fun _ => by first | trivial | rfl⟩), rfl⟩
          · replace h4 : ¬ ((q : Int) < (if chkL b l d m hs = 0 then cntL b l d else 0)) := h4
            have nx : nxtL b l d q = l + 1 := if_neg (by rw [hnn] at h4; exact h4)
            refine ⟨⟨by show (-9223372036854775808 : Int) ≤ (l + 1); omega, by show (l + 1) ≤ (9223372036854775807 : Int); omega⟩, fun h13 => ?_, fun h13 => absurd h13 (show ¬ ((nxtL b l d q) ≠ (l + 1)) by exact fun h => h nx)⟩
            clear h13
            refine ⟨⟨by show (-9223372036854775808 : Int) ≤ (b - 1); omega, by show (b - 1) ≤ (9223372036854775807 : Int); omega⟩, rfl, rfl, rfl, rfl, rfl, by show hs.length ≤ 2000000; first | omega | assumption, fun h14 => ?_, fun h14 => absurd h14 (show ¬ ((perL b l d m hs (b - 1)) ≠ (-1)) by exact fun h => h (per_no (by omega)))⟩
            clear h14
            refine ⟨rfl, rfl, rfl, rfl, rfl, by show hs.length ≤ 2000000; first | omega | assumption, fun h15 => absurd h15 (show ¬ ((perL b l d m hs (nxtL b l d q)) ≠ (-1)) by rw [nx]; exact fun h => h (per_no (by omega))), fun h15 => ?_⟩
            clear h15
            refine ⟨1, [(1, .k), (2, .k), (13, .o (.int .i64)), (14, .k)], fun nM vs H => ∃ (t : Int) (z : List Int), b ≤ t ∧ t ≤ l + 6 ∧ Hd b l d t z ∧ nM = (l + 6 - t).toNat ∧ vs = [.sl false .bool lk, .ptr 0 1 0 0, .own (.int .i64) 1, .int .i64 t] ∧ H = [.cells [.int .i64 b, .int .i64 l, .int .i64 d, .int .i64 m, .sl false (.int .i64) hs], .row true (.int .i64) z], ⟨rfl, (l + 6 - b).toNat, b, [], by omega, by omega, hd_start b l d, by omega, rfl, rfl⟩, ?_⟩
            rintro nM vs H ⟨t, z, hc2_0, hc2_1, hc2_2, rfl, rfl, rfl⟩
            refine ⟨⟨by show (-9223372036854775808 : Int) ≤ (l + 5); omega, by show (l + 5) ≤ (9223372036854775807 : Int); omega⟩, fun h16 => ?_, fun h16 => ?_⟩
            · replace h16 : t ≤ (l + 5) := h16
              have hE : lokE b l d m hs z t = 0 := look_err hc hc2_2.bd hc2_2.srt (by omega) (by omega)
              have hLt : lokT b l d m hs z t = [] := late_none hc2_2.lat
              have hRt : lokR b l d m hs z t = [] := early_none hc2_2.ear
              have hzl := held_len hc hc2_2.bd hc2_2.srt hc2_2.ear hc2_2.lat
              refine ⟨rfl, rfl, rfl, rfl, rfl, ⟨by show hs.length ≤ 2000000; first | omega | assumption, by show z.length ≤ 2000000; first | omega | assumption⟩, ⟨rfl, rfl, rfl, Nat.le_of_ble_eq_true rfl⟩, by kernel_rfl, fun h17 => ?_, fun h17 => absurd h17 (show ¬ ((lokE b l d m hs z t) ≠ 0) by exact fun h => h hE)⟩
              clear h17
              refine ⟨fun h18 => ?_, fun h18 => absurd h18 (show ¬ ((lokE b l d m hs z t) ≠ 0) by exact fun h => h hE)⟩
              clear h18
              refine ⟨fun h19 => ?_, fun h19 => absurd h19 (show ¬ ((lokE b l d m hs z t) ≠ 0) by exact fun h => h hE)⟩
              clear h19
              refine ⟨fun h20 => ?_, fun h20 => absurd h20 (show ¬ ((lokE b l d m hs z t) ≠ 0) by exact fun h => h hE)⟩
              clear h20
              refine ⟨fun h21 => absurd h21 (show ¬ ((lokE b l d m hs z t) ≠ 0) by exact fun h => h hE), fun h21 => ?_⟩
              clear h21
              refine ⟨fun h22 => ?_, fun h22 => absurd h22 (show ¬ (0 < (((lokT b l d m hs z t).length : Nat) : Int)) by rw [hLt]; decide)⟩
              clear h22
              refine ⟨fun h23 => ?_, fun h23 => absurd h23 (show ¬ (0 < (((lokT b l d m hs z t).length : Nat) : Int)) by rw [hLt]; decide)⟩
              clear h23
              refine ⟨fun h24 => ?_, fun h24 => absurd h24 (show ¬ (0 < (((lokT b l d m hs z t).length : Nat) : Int)) by rw [hLt]; decide)⟩
              clear h24
              refine ⟨fun h25 => ?_, fun h25 => absurd h25 (show ¬ (0 < (((lokT b l d m hs z t).length : Nat) : Int)) by rw [hLt]; decide)⟩
              clear h25
              refine ⟨fun h26 => absurd h26 (show ¬ (0 < (((lokT b l d m hs z t).length : Nat) : Int)) by rw [hLt]; decide), fun h26 => ?_⟩
              clear h26
              refine ⟨fun h27 => ?_, fun h27 => absurd h27 (show ¬ (0 < (((lokR b l d m hs z t).length : Nat) : Int)) by rw [hRt]; decide)⟩
              clear h27
              refine ⟨fun h28 => ?_, fun h28 => absurd h28 (show ¬ (0 < (((lokR b l d m hs z t).length : Nat) : Int)) by rw [hRt]; decide)⟩
              clear h28
              refine ⟨fun h29 => ?_, fun h29 => absurd h29 (show ¬ (0 < (((lokR b l d m hs z t).length : Nat) : Int)) by rw [hRt]; decide)⟩
              clear h29
              refine ⟨fun h30 => absurd h30 (show ¬ (0 < (((lokR b l d m hs z t).length : Nat) : Int)) by rw [hRt]; decide), fun h30 => ?_⟩
              clear h30
              refine ⟨fun h31 => ?_, fun h31 => absurd h31 (show ¬ (4 < (z.length : Int)) by omega)⟩
              clear h31
              refine ⟨fun h32 => ?_, fun h32 => absurd h32 (show ¬ (4 < (z.length : Int)) by omega)⟩
              clear h32
              refine ⟨fun h33 => ?_, fun h33 => absurd h33 (show ¬ (4 < (z.length : Int)) by omega)⟩
              clear h33
              refine ⟨fun h34 => ?_, fun h34 => absurd h34 (show ¬ (4 < (z.length : Int)) by omega)⟩
              clear h34
              refine ⟨fun h35 => ?_, fun h35 => absurd h35 (show ¬ (4 < (z.length : Int)) by omega)⟩
              clear h35
              refine ⟨rfl, rfl, rfl, rfl, rfl, by show hs.length ≤ 2000000; first | omega | assumption, fun h36 => ?_, fun h36 => absurd h36 (show ¬ (4 < (z.length : Int)) by omega)⟩
              clear h36
              refine ⟨fun h37 => absurd h37 (show ¬ (4 < (z.length : Int)) by omega), fun h37 => ?_⟩
              clear h37
              refine ⟨fun h38 => absurd h38 (show ¬ ((lokM b l d m hs z t) ≠ (perL b l d m hs t)) by exact fun h => h (if_pos hE)), fun h38 => ?_⟩
              clear h38
              refine ⟨6, [(1, .k), (2, .k), (13, .o (.int .i64)), (14, .k), (15, .k)], fun vs H => ∃ (x : List Int), Hm b l d t x ∧ vs = [.sl false .bool lk, .ptr 0 1 0 0, .own (.int .i64) 1, .int .i64 t, .ptr 5 1 0 0] ∧ H = [.cells [.int .i64 b, .int .i64 l, .int .i64 d, .int .i64 m, .sl false (.int .i64) hs], .row true (.int .i64) x, .row true (.int .i64) (lokW b l d m hs z t), .row true (.int .i64) (lokT b l d m hs z t), .row true (.int .i64) (lokR b l d m hs z t), .cells [.int .i64 (lokM b l d m hs z t), .int .i64 (lokY b l d m hs z t), .b (lokL b l d m hs z t), .own (.int .i64) 2, .own (.int .i64) 3, .own (.int .i64) 4]], fun hj173 => ?_, fun hj173 => ?_, ?_⟩
              · replace hj173 : lokL b l d m hs z t := hj173
                refine ⟨rfl, ⟨rfl, rfl⟩, by show z.length + ([lokM b l d m hs z t] : List Int).length ≤ 1000000000; simp only [List.length_cons, List.length_nil]; omega, ?_⟩
                exact ⟨rfl, _, must_yes hc hc2_2 hc2_0 hj173, rfl, rfl⟩
              · replace hj173 : ¬ (lokL b l d m hs z t) := hj173
                exact ⟨rfl, _, must_no hc hc2_2 hc2_0 hE hj173, rfl, rfl⟩
              · rintro vs H ⟨x, hmx, rfl, rfl⟩
                have hm := hmx
                have hxl := held_len hc hmx.bd hmx.srt hmx.ear hmx.lat
                have hsome : 0 ≤ lokY b l d m hs z t → 0 < x.length := fun g => hm_some hc hmx hc2_0 hE g
                refine ⟨⟨by show (-9223372036854775808 : Int) ≤ (t - b); omega, by show (t - b) ≤ (9223372036854775807 : Int); omega⟩, fun h39 => ?_, fun h39 => ?_⟩
                · replace h39 : (t - b) < (lk.length : Int) := h39
                  refine ⟨⟨by show (0 : Int) ≤ (t - b); omega, by show (t - b) < (lk.length : Int); omega⟩, by kernel_rfl, fun h40 => ?_, fun h40 => ?_⟩
                  · replace h40 : lk.getD ((t - b).toNat) false = true := h40
                    refine ⟨fun h41 => ?_, fun h41 => absurd (show lk.getD ((t - b).toNat) false = true by first | omega | assumption | simp_all) h41⟩
                    clear h41
                    refine ⟨fun h42 => ?_, fun h42 => absurd (show lk.getD ((t - b).toNat) false = true by first | omega | assumption | simp_all) h42⟩
                    clear h42
                    refine ⟨fun h43 => ?_, fun h43 => absurd (show lk.getD ((t - b).toNat) false = true by first | omega | assumption | simp_all) h43⟩
                    clear h43
                    refine ⟨fun h44 => ?_, fun h44 => ?_⟩
                    · replace h44 : 0 ≤ (lokY b l d m hs z t) := h44
                      refine ⟨fun h45 => ?_, fun h45 => absurd (show 0 ≤ (lokY b l d m hs z t) by first | omega | assumption | simp_all) h45⟩
                      clear h45
                      refine ⟨fun h46 => ?_, fun h46 => absurd (show 0 ≤ (lokY b l d m hs z t) by first | omega | assumption | simp_all) h46⟩
                      clear h46
                      refine ⟨fun h47 => ?_, fun h47 => absurd (show 0 ≤ (lokY b l d m hs z t) by first | omega | assumption | simp_all) h47⟩
                      clear h47
                      refine ⟨fun h48 => ?_, fun h48 => absurd h48 (show ¬ ((x.length : Int) = 0) by have := hm_some hc hmx hc2_0 hE (by assumption); omega)⟩
                      clear h48
                      refine ⟨fun h49 => ?_, fun h49 => absurd h49 (show ¬ ((x.length : Int) = 0) by have := hm_some hc hmx hc2_0 hE (by assumption); omega)⟩
                      clear h49
                      refine ⟨fun h50 => ?_, fun h50 => absurd h50 (show ¬ ((x.length : Int) = 0) by have := hm_some hc hmx hc2_0 hE (by assumption); omega)⟩
                      clear h50
                      refine ⟨fun h51 => ?_, fun h51 => absurd h51 (show ¬ ((x.length : Int) = 0) by have := hm_some hc hmx hc2_0 hE (by assumption); omega)⟩
                      clear h51
                      refine ⟨⟨by show (-9223372036854775808 : Int) ≤ ((x.length : Int) - 1); omega, by show ((x.length : Int) - 1) ≤ (9223372036854775807 : Int); omega⟩, fun h52 => ?_, fun h52 => absurd h52 (show ¬ ((x.length : Int) = 0) by have := hm_some hc hmx hc2_0 hE (by assumption); omega)⟩
                      clear h52
                      refine ⟨⟨by show (0 : Int) ≤ ((x.length : Int) - 1); omega, by show ((x.length : Int) - 1) < (x.length : Int); omega⟩, fun h53 => ?_, fun h53 => absurd h53 (show ¬ ((x.length : Int) = 0) by have := hm_some hc hmx hc2_0 hE (by assumption); omega)⟩
                      clear h53
                      refine ⟨fun h54 => ?_, fun h54 => absurd h54 (show ¬ ((x.length : Int) = 0) by have := hm_some hc hmx hc2_0 hE (by assumption); omega)⟩
                      clear h54
                      refine ⟨fun h55 => ?_, fun h55 => absurd h55 (show ¬ ((x.length : Int) = 0) by have := hm_some hc hmx hc2_0 hE (by assumption); omega)⟩
                      clear h55
                      refine ⟨fun h56 => ?_, fun h56 => absurd h56 (show ¬ ((x.length : Int) = 0) by have := hm_some hc hmx hc2_0 hE (by assumption); omega)⟩
                      clear h56
                      refine ⟨fun h57 => ?_, fun h57 => absurd (show 0 ≤ (lokY b l d m hs z t) by first | omega | assumption | simp_all) h57⟩
                      clear h57
                      refine ⟨fun h58 => absurd h58 (show ¬ ((x.length : Int) = 0) by have := hm_some hc hmx hc2_0 hE (by assumption); omega), fun h58 => ?_⟩
                      clear h58
                      refine ⟨fun h59 => ?_, fun h59 => absurd (show 0 ≤ (lokY b l d m hs z t) by first | omega | assumption | simp_all) h59⟩
                      clear h59
                      refine ⟨6, [(1, .k), (2, .k), (13, .o (.int .i64)), (14, .k), (18, .k)], fun vs H => ∃ (y : List Int), Hm b l d t y ∧ vs = [.sl false .bool lk, .ptr 0 1 0 0, .own (.int .i64) 1, .int .i64 t, .b (lk.getD ((t - b).toNat) false = true)] ∧ H = [.cells [.int .i64 b, .int .i64 l, .int .i64 d, .int .i64 m, .sl false (.int .i64) hs], .row true (.int .i64) y, .row true (.int .i64) (lokW b l d m hs z t), .row true (.int .i64) (lokT b l d m hs z t), .row true (.int .i64) (lokR b l d m hs z t), .cells [.int .i64 (lokM b l d m hs z t), .int .i64 (lokY b l d m hs z t), .b (lokL b l d m hs z t), .own (.int .i64) 2, .own (.int .i64) 3, .own (.int .i64) 4]], fun hj214 => ?_, fun hj214 => ?_, ?_⟩
                      · replace hj214 : (x.getD (((x.length : Int) - 1).toNat) 0) < (lokY b l d m hs z t) := hj214
                        refine ⟨rfl, ⟨rfl, rfl⟩, by show x.length + ([lokY b l d m hs z t] : List Int).length ≤ 1000000000; simp only [List.length_cons, List.length_nil]; omega, ?_⟩
                        exact ⟨rfl, _, may_yes hc hmx hc2_0 hE (by assumption) (.inr hj214), rfl, rfl⟩
                      · replace hj214 : ¬ ((x.getD (((x.length : Int) - 1).toNat) 0) < (lokY b l d m hs z t)) := hj214
                        exact ⟨rfl, _, hmx, rfl, rfl⟩
                      · rintro vs H ⟨y, hm, rfl, rfl⟩
                        have hyl := held_len hc hm.bd hm.srt hm.ear hm.lat
                        refine ⟨rfl, rfl, rfl, rfl, rfl, ⟨by show hs.length ≤ 2000000; first | omega | assumption, by show y.length ≤ 2000000; first | omega | assumption⟩, ⟨rfl, rfl, rfl, Nat.le_of_ble_eq_true rfl⟩, fun h60 => ?_, fun h60 => absurd h60 (show ¬ ((lokE b l d m hs y t) ≠ 0) by exact fun h => h (look_err hc hm.bd hm.srt (by omega) (by omega)))⟩
                        clear h60
                        refine ⟨fun h61 => ?_, fun h61 => absurd h61 (show ¬ (lokL b l d m hs y t) by exact no_lack hc hm hc2_0)⟩
                        clear h61
                        refine ⟨fun h62 => absurd h62 (show ¬ (0 < (((lokR b l d m hs y t).length : Nat) : Int)) by rw [early_none hm.ear]; decide), fun h62 => ?_⟩
                        clear h62
                        refine ⟨10, [(1, .k), (2, .k), (13, .o (.int .i64)), (14, .k), (18, .k), (19, .k)], fun nM vs H => (∃ (j : Nat), j = 0 ∧ nM = (lokW b l d m hs y t).length - j ∧ vs = [.sl false .bool lk, .ptr 0 1 0 0, .own (.int .i64) 1, .int .i64 t, .b (lk.getD ((t - b).toNat) false = true), .ptr 9 1 0 0] ∧ H = [.cells [.int .i64 b, .int .i64 l, .int .i64 d, .int .i64 m, .sl false (.int .i64) hs], .row true (.int .i64) (y.drop 0), .row true (.int .i64) (lokW b l d m hs z t), .row true (.int .i64) (lokT b l d m hs z t), .row true (.int .i64) (lokR b l d m hs z t), .cells [.int .i64 (lokM b l d m hs z t), .int .i64 (lokY b l d m hs z t), .b (lokL b l d m hs z t), .own (.int .i64) 2, .own (.int .i64) 3, .own (.int .i64) 4], .row true (.int .i64) (lokW b l d m hs y t), .row true (.int .i64) (lokT b l d m hs y t), .row true (.int .i64) (lokR b l d m hs y t), .cells [.int .i64 (lokM b l d m hs y t), .int .i64 (lokY b l d m hs y t), .b (lokL b l d m hs y t), .own (.int .i64) 6, .own (.int .i64) 7, .own (.int .i64) 8]]) ∨ (∃ (j : Nat), j ≤ (lokW b l d m hs y t).length ∧ nM = (lokW b l d m hs y t).length - j ∧ vs = [.sl false .bool lk, .ptr 0 1 0 0, .own (.int .i64) 1, .int .i64 t, .b (lk.getD ((t - b).toNat) false = true), .ptr 9 1 0 0] ∧ H = [.cells [.int .i64 b, .int .i64 l, .int .i64 d, .int .i64 m, .sl false (.int .i64) hs], .row true (.int .i64) (y.drop j), .row true (.int .i64) (lokW b l d m hs z t), .row true (.int .i64) (lokT b l d m hs z t), .row true (.int .i64) (lokR b l d m hs z t), .cells [.int .i64 (lokM b l d m hs z t), .int .i64 (lokY b l d m hs z t), .b (lokL b l d m hs z t), .own (.int .i64) 2, .own (.int .i64) 3, .own (.int .i64) 4], .row true (.int .i64) (lokW b l d m hs y t), .row true (.int .i64) (lokT b l d m hs y t), .row true (.int .i64) (lokR b l d m hs y t), .cells [.int .i64 (lokM b l d m hs y t), .int .i64 (lokY b l d m hs y t), .b (lokL b l d m hs y t), .slc (.int .i64) 6 j (lft (lokW b l d m hs y t).length j), .own (.int .i64) 7, .own (.int .i64) 8]]), ⟨rfl, (lokW b l d m hs y t).length, .inl ⟨0, rfl, by omega, rfl, rfl⟩⟩, ?_⟩
                        rintro nM vs H (⟨j, hj0, rfl, rfl, rfl⟩ | ⟨j, hj0, rfl, rfl, rfl⟩)
                        · have alt := 0
                          have hEz : lokE b l d m hs y t = 0 := look_err hc hm.bd hm.srt (by omega) (by omega)
                          obtain ⟨hwl, hwa⟩ := wipe_at hc hm.bd hm.srt hEz
                          have hlf : lft (lokW b l d m hs y t).length j = (lokW b l d m hs y t).length - j := rfl
                          have hld : (y.drop j).length = y.length - j := List.length_drop
                          have hl0 : (y.drop 0).length = y.length := rfl
                          clear hwa
                          refine ⟨fun h63 => ?_, fun h63 => ?_⟩
                          · replace h63 : 0 < (((lokW b l d m hs y t).length : Nat) : Int) := h63
                            refine ⟨fun h64 => ?_, fun h64 => absurd (show 0 < (((y.drop 0).length : Nat) : Int) by omega) h64⟩
                            clear h64
                            refine ⟨fun h65 => absurd (show lk.getD ((t - b).toNat) false = true by first | omega | assumption | simp_all) h65, fun h65 => ?_⟩
                            clear h65
                            refine ⟨by kernel_rfl, ⟨by show (0 : Int) ≤ 0; omega, by show 0 < ((y.drop 0).length : Int); omega⟩, ⟨by show (0 : Int) ≤ 0; omega, by show 0 < ((lokW b l d m hs y t).length : Int); omega⟩, fun h66 => absurd h66 (show ¬ (((y.drop 0).getD 0 0) ≠ ((lokW b l d m hs y t).getD 0 0)) by exact fun h => h (same_first hc hm hEz (j := 0) (by omega))), fun h66 => ?_⟩
                            clear h66
                            refine ⟨by kernel_rfl, ⟨by omega, by omega⟩, ⟨by omega, by omega⟩, ⟨rfl, rfl, rfl⟩, ?_⟩
                            exact ⟨⟨rfl, rfl, by omega⟩, rfl, (lokW b l d m hs y t).length - 1, by omega, .inr ⟨1, by omega, rfl, rfl, rfl⟩⟩
                          · replace h63 : ¬ (0 < (((lokW b l d m hs y t).length : Nat) : Int)) := h63
                            refine ⟨fun h67 => absurd h67 (show ¬ (0 < (((lokW b l d m hs y t).length : Nat) : Int)) by first | omega | assumption | simp_all), fun h67 => ?_⟩
                            clear h67
                            refine ⟨⟨by show (-9223372036854775808 : Int) ≤ (t + 1); omega, by show (t + 1) ≤ (9223372036854775807 : Int); omega⟩, ?_⟩
                            exact ⟨rfl, (l + 6 - (t + 1)).toNat, by omega, t + 1, _, by omega, by omega, (by first | exact nx_done hc hm hc2_0 hEz (j := 0) (by omega) (by omega) | exact nx_no hc hm hc2_0 hEz (j := 0) (by omega) (fun e => by obtain ⟨g1, g2, g3, g4⟩ := held_at hc hm hEz (j := 0) (by omega); exact absurd (show (if askL b l d m hs ((y.drop 0).getD 0 0) = 0 then expT b l d ((y.drop 0).getD 0 0) else 0) = t by rw [if_pos (hc.ask g2 g3)]; exact e) (by assumption))), rfl, rfl, rfl⟩
                        · have alt := 1
                          have hEz : lokE b l d m hs y t = 0 := look_err hc hm.bd hm.srt (by omega) (by omega)
                          obtain ⟨hwl, hwa⟩ := wipe_at hc hm.bd hm.srt hEz
                          have hlf : lft (lokW b l d m hs y t).length j = (lokW b l d m hs y t).length - j := rfl
                          have hld : (y.drop j).length = y.length - j := List.length_drop
                          have hl0 : (y.drop 0).length = y.length := rfl
                          clear hwa
                          refine ⟨fun h68 => ?_, fun h68 => ?_⟩
                          · replace h68 : 0 < (((lft (lokW b l d m hs y t).length j) : Nat) : Int) := h68
                            refine ⟨fun h69 => ?_, fun h69 => absurd (show 0 < (((y.drop j).length : Nat) : Int) by omega) h69⟩
                            clear h69
                            refine ⟨fun h70 => absurd (show lk.getD ((t - b).toNat) false = true by first | omega | assumption | simp_all) h70, fun h70 => ?_⟩
                            clear h70
                            refine ⟨by kernel_rfl, ⟨by show (0 : Int) ≤ 0; omega, by show 0 < ((y.drop j).length : Int); omega⟩, ⟨by show (0 : Int) ≤ 0; omega, by show 0 < ((lft (lokW b l d m hs y t).length j) : Int); omega⟩, fun h71 => absurd h71 (show ¬ (((y.drop j).getD 0 0) ≠ ((lokW b l d m hs y t).getD (j + 0) 0)) by exact fun h => h (same_first hc hm hEz (j := j) (by omega))), fun h71 => ?_⟩
                            clear h71
                            refine ⟨by kernel_rfl, ⟨by omega, by omega⟩, ⟨by omega, by omega⟩, ⟨rfl, rfl, rfl⟩, ?_⟩
                            exact ⟨⟨rfl, rfl, by omega⟩, rfl, (lokW b l d m hs y t).length - (j + 1), by omega, .inr ⟨j + 1, by omega, rfl, rfl, by rw [List.drop_drop]; rfl⟩⟩
                          · replace h68 : ¬ (0 < (((lft (lokW b l d m hs y t).length j) : Nat) : Int)) := h68
                            refine ⟨fun h72 => absurd h72 (show ¬ (0 < (((lft (lokW b l d m hs y t).length j) : Nat) : Int)) by first | omega | assumption | simp_all), fun h72 => ?_⟩
                            clear h72
                            refine ⟨⟨by show (-9223372036854775808 : Int) ≤ (t + 1); omega, by show (t + 1) ≤ (9223372036854775807 : Int); omega⟩, ?_⟩
                            exact ⟨rfl, (l + 6 - (t + 1)).toNat, by omega, t + 1, _, by omega, by omega, (by first | exact nx_done hc hm hc2_0 hEz (j := j) (by omega) (by omega) | exact nx_no hc hm hc2_0 hEz (j := j) (by omega) (fun e => by obtain ⟨g1, g2, g3, g4⟩ := held_at hc hm hEz (j := j) (by omega); exact absurd (show (if askL b l d m hs ((y.drop j).getD 0 0) = 0 then expT b l d ((y.drop j).getD 0 0) else 0) = t by rw [if_pos (hc.ask g2 g3)]; exact e) (by assumption))), rfl, rfl, rfl⟩
                    · replace h44 : ¬ (0 ≤ (lokY b l d m hs z t)) := h44
                      refine ⟨fun h73 => absurd h73 (show ¬ (0 ≤ (lokY b l d m hs z t)) by first | omega | assumption | simp_all), fun h73 => ?_⟩
                      clear h73
                      refine ⟨fun h74 => absurd h74 (show ¬ (0 ≤ (lokY b l d m hs z t)) by first | omega | assumption | simp_all), fun h74 => ?_⟩
                      clear h74
                      refine ⟨fun h75 => absurd h75 (show ¬ (0 ≤ (lokY b l d m hs z t)) by first | omega | assumption | simp_all), fun h75 => ?_⟩
                      clear h75
                      refine ⟨fun h76 => absurd h76 (show ¬ (0 ≤ (lokY b l d m hs z t)) by first | omega | assumption | simp_all), fun h76 => ?_⟩
                      clear h76
                      refine ⟨fun h77 => absurd h77 (show ¬ (0 ≤ (lokY b l d m hs z t)) by first | omega | assumption | simp_all), fun h77 => ?_⟩
                      clear h77
                      refine ⟨rfl, rfl, rfl, rfl, rfl, ⟨by show hs.length ≤ 2000000; first | omega | assumption, by show x.length ≤ 2000000; first | omega | assumption⟩, ⟨rfl, rfl, rfl, Nat.le_of_ble_eq_true rfl⟩, fun h78 => ?_, fun h78 => absurd h78 (show ¬ ((lokE b l d m hs x t) ≠ 0) by exact fun h => h (look_err hc hm.bd hm.srt (by omega) (by omega)))⟩
                      clear h78
                      refine ⟨fun h79 => ?_, fun h79 => absurd h79 (show ¬ (lokL b l d m hs x t) by exact no_lack hc hm hc2_0)⟩
                      clear h79
                      refine ⟨fun h80 => absurd h80 (show ¬ (0 < (((lokR b l d m hs x t).length : Nat) : Int)) by rw [early_none hm.ear]; decide), fun h80 => ?_⟩
                      clear h80
                      refine ⟨10, [(1, .k), (2, .k), (13, .o (.int .i64)), (14, .k), (18, .k), (19, .k)], fun nM vs H => (∃ (j : Nat), j = 0 ∧ nM = (lokW b l d m hs x t).length - j ∧ vs = [.sl false .bool lk, .ptr 0 1 0 0, .own (.int .i64) 1, .int .i64 t, .b (lk.getD ((t - b).toNat) false = true), .ptr 9 1 0 0] ∧ H = [.cells [.int .i64 b, .int .i64 l, .int .i64 d, .int .i64 m, .sl false (.int .i64) hs], .row true (.int .i64) (x.drop 0), .row true (.int .i64) (lokW b l d m hs z t), .row true (.int .i64) (lokT b l d m hs z t), .row true (.int .i64) (lokR b l d m hs z t), .cells [.int .i64 (lokM b l d m hs z t), .int .i64 (lokY b l d m hs z t), .b (lokL b l d m hs z t), .own (.int .i64) 2, .own (.int .i64) 3, .own (.int .i64) 4], .row true (.int .i64) (lokW b l d m hs x t), .row true (.int .i64) (lokT b l d m hs x t), .row true (.int .i64) (lokR b l d m hs x t), .cells [.int .i64 (lokM b l d m hs x t), .int .i64 (lokY b l d m hs x t), .b (lokL b l d m hs x t), .own (.int .i64) 6, .own (.int .i64) 7, .own (.int .i64) 8]]) ∨ (∃ (j : Nat), j ≤ (lokW b l d m hs x t).length ∧ nM = (lokW b l d m hs x t).length - j ∧ vs = [.sl false .bool lk, .ptr 0 1 0 0, .own (.int .i64) 1, .int .i64 t, .b (lk.getD ((t - b).toNat) false = true), .ptr 9 1 0 0] ∧ H = [.cells [.int .i64 b, .int .i64 l, .int .i64 d, .int .i64 m, .sl false (.int .i64) hs], .row true (.int .i64) (x.drop j), .row true (.int .i64) (lokW b l d m hs z t), .row true (.int .i64) (lokT b l d m hs z t), .row true (.int .i64) (lokR b l d m hs z t), .cells [.int .i64 (lokM b l d m hs z t), .int .i64 (lokY b l d m hs z t), .b (lokL b l d m hs z t), .own (.int .i64) 2, .own (.int .i64) 3, .own (.int .i64) 4], .row true (.int .i64) (lokW b l d m hs x t), .row true (.int .i64) (lokT b l d m hs x t), .row true (.int .i64) (lokR b l d m hs x t), .cells [.int .i64 (lokM b l d m hs x t), .int .i64 (lokY b l d m hs x t), .b (lokL b l d m hs x t), .slc (.int .i64) 6 j (lft (lokW b l d m hs x t).length j), .own (.int .i64) 7, .own (.int .i64) 8]]), ⟨rfl, (lokW b l d m hs x t).length, .inl ⟨0, rfl, by omega, rfl, rfl⟩⟩, ?_⟩
                      rintro nM vs H (⟨j, hj0, rfl, rfl, rfl⟩ | ⟨j, hj0, rfl, rfl, rfl⟩)
                      · have alt := 0
                        have hEz : lokE b l d m hs x t = 0 := look_err hc hm.bd hm.srt (by omega) (by omega)
                        obtain ⟨hwl, hwa⟩ := wipe_at hc hm.bd hm.srt hEz
                        have hlf : lft (lokW b l d m hs x t).length j = (lokW b l d m hs x t).length - j := rfl
                        have hld : (x.drop j).length = x.length - j := List.length_drop
                        have hl0 : (x.drop 0).length = x.length := rfl
                        clear hwa
                        refine ⟨fun h81 => ?_, fun h81 => ?_⟩
                        · replace h81 : 0 < (((lokW b l d m hs x t).length : Nat) : Int) := h81
                          refine ⟨fun h82 => ?_, fun h82 => absurd (show 0 < (((x.drop 0).length : Nat) : Int) by omega) h82⟩
                          clear h82
                          refine ⟨fun h83 => absurd (show lk.getD ((t - b).toNat) false = true by first | omega | assumption | simp_all) h83, fun h83 => ?_⟩
                          clear h83
                          refine ⟨by kernel_rfl, ⟨by show (0 : Int) ≤ 0; omega, by show 0 < ((x.drop 0).length : Int); omega⟩, ⟨by show (0 : Int) ≤ 0; omega, by show 0 < ((lokW b l d m hs x t).length : Int); omega⟩, fun h84 => absurd h84 (show ¬ (((x.drop 0).getD 0 0) ≠ ((lokW b l d m hs x t).getD 0 0)) by exact fun h => h (same_first hc hm hEz (j := 0) (by omega))), fun h84 => ?_⟩
                          clear h84
                          refine ⟨by kernel_rfl, ⟨by omega, by omega⟩, ⟨by omega, by omega⟩, ⟨rfl, rfl, rfl⟩, ?_⟩
                          exact ⟨⟨rfl, rfl, by omega⟩, rfl, (lokW b l d m hs x t).length - 1, by omega, .inr ⟨1, by omega, rfl, rfl, rfl⟩⟩
                        · replace h81 : ¬ (0 < (((lokW b l d m hs x t).length : Nat) : Int)) := h81
                          refine ⟨fun h85 => absurd h85 (show ¬ (0 < (((lokW b l d m hs x t).length : Nat) : Int)) by first | omega | assumption | simp_all), fun h85 => ?_⟩
                          clear h85
                          refine ⟨⟨by show (-9223372036854775808 : Int) ≤ (t + 1); omega, by show (t + 1) ≤ (9223372036854775807 : Int); omega⟩, ?_⟩
                          exact ⟨rfl, (l + 6 - (t + 1)).toNat, by omega, t + 1, _, by omega, by omega, (by first | exact nx_done hc hm hc2_0 hEz (j := 0) (by omega) (by omega) | exact nx_no hc hm hc2_0 hEz (j := 0) (by omega) (fun e => by obtain ⟨g1, g2, g3, g4⟩ := held_at hc hm hEz (j := 0) (by omega); exact absurd (show (if askL b l d m hs ((x.drop 0).getD 0 0) = 0 then expT b l d ((x.drop 0).getD 0 0) else 0) = t by rw [if_pos (hc.ask g2 g3)]; exact e) (by assumption))), rfl, rfl, rfl⟩
                      · have alt := 1
                        have hEz : lokE b l d m hs x t = 0 := look_err hc hm.bd hm.srt (by omega) (by omega)
                        obtain ⟨hwl, hwa⟩ := wipe_at hc hm.bd hm.srt hEz
                        have hlf : lft (lokW b l d m hs x t).length j = (lokW b l d m hs x t).length - j := rfl
                        have hld : (x.drop j).length = x.length - j := List.length_drop
                        have hl0 : (x.drop 0).length = x.length := rfl
                        clear hwa
                        refine ⟨fun h86 => ?_, fun h86 => ?_⟩
                        · replace h86 : 0 < (((lft (lokW b l d m hs x t).length j) : Nat) : Int) := h86
                          refine ⟨fun h87 => ?_, fun h87 => absurd (show 0 < (((x.drop j).length : Nat) : Int) by omega) h87⟩
                          clear h87
                          refine ⟨fun h88 => absurd (show lk.getD ((t - b).toNat) false = true by first | omega | assumption | simp_all) h88, fun h88 => ?_⟩
                          clear h88
                          refine ⟨by kernel_rfl, ⟨by show (0 : Int) ≤ 0; omega, by show 0 < ((x.drop j).length : Int); omega⟩, ⟨by show (0 : Int) ≤ 0; omega, by show 0 < ((lft (lokW b l d m hs x t).length j) : Int); omega⟩, fun h89 => absurd h89 (show ¬ (((x.drop j).getD 0 0) ≠ ((lokW b l d m hs x t).getD (j + 0) 0)) by exact fun h => h (same_first hc hm hEz (j := j) (by omega))), fun h89 => ?_⟩
                          clear h89
                          refine ⟨by kernel_rfl, ⟨by omega, by omega⟩, ⟨by omega, by omega⟩, ⟨rfl, rfl, rfl⟩, ?_⟩
                          exact ⟨⟨rfl, rfl, by omega⟩, rfl, (lokW b l d m hs x t).length - (j + 1), by omega, .inr ⟨j + 1, by omega, rfl, rfl, by rw [List.drop_drop]; rfl⟩⟩
                        · replace h86 : ¬ (0 < (((lft (lokW b l d m hs x t).length j) : Nat) : Int)) := h86
                          refine ⟨fun h90 => absurd h90 (show ¬ (0 < (((lft (lokW b l d m hs x t).length j) : Nat) : Int)) by first | omega | assumption | simp_all), fun h90 => ?_⟩
                          clear h90
                          refine ⟨⟨by show (-9223372036854775808 : Int) ≤ (t + 1); omega, by show (t + 1) ≤ (9223372036854775807 : Int); omega⟩, ?_⟩
                          exact ⟨rfl, (l + 6 - (t + 1)).toNat, by omega, t + 1, _, by omega, by omega, (by first | exact nx_done hc hm hc2_0 hEz (j := j) (by omega) (by omega) | exact nx_no hc hm hc2_0 hEz (j := j) (by omega) (fun e => by obtain ⟨g1, g2, g3, g4⟩ := held_at hc hm hEz (j := j) (by omega); exact absurd (show (if askL b l d m hs ((x.drop j).getD 0 0) = 0 then expT b l d ((x.drop j).getD 0 0) else 0) = t by rw [if_pos (hc.ask g2 g3)]; exact e) (by assumption))), rfl, rfl, rfl⟩
                  · replace h40 : ¬ (lk.getD ((t - b).toNat) false = true) := h40
                    refine ⟨fun h91 => absurd h91 (show ¬ (lk.getD ((t - b).toNat) false = true) by first | omega | assumption | simp_all), fun h91 => ?_⟩
                    clear h91
                    refine ⟨fun h92 => absurd h92 (show ¬ (lk.getD ((t - b).toNat) false = true) by first | omega | assumption | simp_all), fun h92 => ?_⟩
                    clear h92
                    refine ⟨fun h93 => absurd h93 (show ¬ (lk.getD ((t - b).toNat) false = true) by first | omega | assumption | simp_all), fun h93 => ?_⟩
                    clear h93
                    refine ⟨rfl, rfl, rfl, rfl, rfl, ⟨by show hs.length ≤ 2000000; first | omega | assumption, by show x.length ≤ 2000000; first | omega | assumption⟩, ⟨rfl, rfl, rfl, Nat.le_of_ble_eq_true rfl⟩, fun h94 => ?_, fun h94 => absurd h94 (show ¬ ((lokE b l d m hs x t) ≠ 0) by exact fun h => h (look_err hc hm.bd hm.srt (by omega) (by omega)))⟩
                    clear h94
                    refine ⟨fun h95 => ?_, fun h95 => absurd h95 (show ¬ (lokL b l d m hs x t) by exact no_lack hc hm hc2_0)⟩
                    clear h95
                    refine ⟨fun h96 => absurd h96 (show ¬ (0 < (((lokR b l d m hs x t).length : Nat) : Int)) by rw [early_none hm.ear]; decide), fun h96 => ?_⟩
                    clear h96
                    refine ⟨10, [(1, .k), (2, .k), (13, .o (.int .i64)), (14, .k), (18, .k), (19, .k)], fun nM vs H => (∃ (j : Nat), j = 0 ∧ nM = (lokW b l d m hs x t).length - j ∧ vs = [.sl false .bool lk, .ptr 0 1 0 0, .own (.int .i64) 1, .int .i64 t, .b (lk.getD ((t - b).toNat) false = true), .ptr 9 1 0 0] ∧ H = [.cells [.int .i64 b, .int .i64 l, .int .i64 d, .int .i64 m, .sl false (.int .i64) hs], .row true (.int .i64) (x.drop 0), .row true (.int .i64) (lokW b l d m hs z t), .row true (.int .i64) (lokT b l d m hs z t), .row true (.int .i64) (lokR b l d m hs z t), .cells [.int .i64 (lokM b l d m hs z t), .int .i64 (lokY b l d m hs z t), .b (lokL b l d m hs z t), .own (.int .i64) 2, .own (.int .i64) 3, .own (.int .i64) 4], .row true (.int .i64) (lokW b l d m hs x t), .row true (.int .i64) (lokT b l d m hs x t), .row true (.int .i64) (lokR b l d m hs x t), .cells [.int .i64 (lokM b l d m hs x t), .int .i64 (lokY b l d m hs x t), .b (lokL b l d m hs x t), .own (.int .i64) 6, .own (.int .i64) 7, .own (.int .i64) 8]]) ∨ (∃ (j : Nat), j ≤ (lokW b l d m hs x t).length ∧ nM = (lokW b l d m hs x t).length - j ∧ vs = [.sl false .bool lk, .ptr 0 1 0 0, .own (.int .i64) 1, .int .i64 t, .b (lk.getD ((t - b).toNat) false = true), .ptr 9 1 0 0] ∧ H = [.cells [.int .i64 b, .int .i64 l, .int .i64 d, .int .i64 m, .sl false (.int .i64) hs], .row true (.int .i64) (x.drop j), .row true (.int .i64) (lokW b l d m hs z t), .row true (.int .i64) (lokT b l d m hs z t), .row true (.int .i64) (lokR b l d m hs z t), .cells [.int .i64 (lokM b l d m hs z t), .int .i64 (lokY b l d m hs z t), .b (lokL b l d m hs z t), .own (.int .i64) 2, .own (.int .i64) 3, .own (.int .i64) 4], .row true (.int .i64) (lokW b l d m hs x t), .row true (.int .i64) (lokT b l d m hs x t), .row true (.int .i64) (lokR b l d m hs x t), .cells [.int .i64 (lokM b l d m hs x t), .int .i64 (lokY b l d m hs x t), .b (lokL b l d m hs x t), .slc (.int .i64) 6 j (lft (lokW b l d m hs x t).length j), .own (.int .i64) 7, .own (.int .i64) 8]]), ⟨rfl, (lokW b l d m hs x t).length, .inl ⟨0, rfl, by omega, rfl, rfl⟩⟩, ?_⟩
                    rintro nM vs H (⟨j, hj0, rfl, rfl, rfl⟩ | ⟨j, hj0, rfl, rfl, rfl⟩)
                    · have alt := 0
                      have hEz : lokE b l d m hs x t = 0 := look_err hc hm.bd hm.srt (by omega) (by omega)
                      obtain ⟨hwl, hwa⟩ := wipe_at hc hm.bd hm.srt hEz
                      have hlf : lft (lokW b l d m hs x t).length j = (lokW b l d m hs x t).length - j := rfl
                      have hld : (x.drop j).length = x.length - j := List.length_drop
                      have hl0 : (x.drop 0).length = x.length := rfl
                      clear hwa
                      refine ⟨fun h97 => ?_, fun h97 => ?_⟩
                      · replace h97 : 0 < (((lokW b l d m hs x t).length : Nat) : Int) := h97
                        refine ⟨fun h98 => ?_, fun h98 => absurd (show 0 < (((x.drop 0).length : Nat) : Int) by omega) h98⟩
                        clear h98
                        refine ⟨fun h99 => ?_, fun h99 => absurd h99 (show ¬ (lk.getD ((t - b).toNat) false = true) by first | omega | assumption | simp_all)⟩
                        clear h99
                        refine ⟨⟨by show (-9223372036854775808 : Int) ≤ (l + 1); omega, by show (l + 1) ≤ (9223372036854775807 : Int); omega⟩, fun h100 => ?_, fun h100 => ?_⟩
                        · replace h100 : t = (l + 1) := h100
                          refine ⟨by kernel_rfl, ⟨by show (0 : Int) ≤ 0; omega, by show 0 < ((x.drop 0).length : Int); omega⟩, ⟨by show (0 : Int) ≤ 0; omega, by show 0 < ((lokW b l d m hs x t).length : Int); omega⟩, fun h101 => absurd h101 (show ¬ (((x.drop 0).getD 0 0) ≠ ((lokW b l d m hs x t).getD 0 0)) by exact fun h => h (same_first hc hm hEz (j := 0) (by omega))), fun h101 => ?_⟩
                          clear h101
                          refine ⟨by kernel_rfl, ⟨by omega, by omega⟩, ⟨by omega, by omega⟩, ⟨rfl, rfl, rfl⟩, ?_⟩
                          exact ⟨⟨rfl, rfl, by omega⟩, rfl, (lokW b l d m hs x t).length - 1, by omega, .inr ⟨1, by omega, rfl, rfl, rfl⟩⟩
                        · replace h100 : ¬ (t = (l + 1)) := h100
                          refine ⟨fun h102 => ?_, fun h102 => absurd (show 0 < (((lokW b l d m hs x t).length : Nat) : Int) by first | omega | assumption | simp_all) h102⟩
                          clear h102
                          refine ⟨fun h103 => ?_, fun h103 => absurd (show 0 < (((x.drop 0).length : Nat) : Int) by omega) h103⟩
                          clear h103
                          refine ⟨by kernel_rfl, ⟨by show (0 : Int) ≤ 0; omega, by show 0 < ((x.drop 0).length : Int); omega⟩, rfl, rfl, rfl, rfl, rfl, by show hs.length ≤ 2000000; first | omega | assumption, fun h104 => ?_, fun h104 => absurd h104 (show ¬ ((askL b l d m hs ((x.drop 0).getD 0 0)) ≠ 0) by obtain ⟨g1, g2, g3, g4⟩ := held_at hc hm hEz (j := 0) (by omega); exact fun h => h (hc.ask g2 g3))⟩
                          clear h104
                          refine ⟨fun h105 => ?_, fun h105 => ?_⟩
                          · replace h105 : (if askL b l d m hs ((x.drop 0).getD 0 0) = 0 then expT b l d ((x.drop 0).getD 0 0) else 0) = t := h105
                            refine ⟨⟨by omega, by omega⟩, ⟨by show (-9223372036854775808 : Int) ≤ (t + 1); omega, by show (t + 1) ≤ (9223372036854775807 : Int); omega⟩, ?_⟩
                            exact ⟨⟨rfl, rfl, by omega⟩, rfl, (l + 6 - (t + 1)).toNat, by omega, t + 1, _, by omega, by omega, nx_yes hc hm hc2_0 hEz (j := 0) (by omega), rfl, rfl, by rw [List.drop_drop]; rfl⟩
                          · replace h105 : ¬ ((if askL b l d m hs ((x.drop 0).getD 0 0) = 0 then expT b l d ((x.drop 0).getD 0 0) else 0) = t) := h105
                            refine ⟨⟨by show (-9223372036854775808 : Int) ≤ (t + 1); omega, by show (t + 1) ≤ (9223372036854775807 : Int); omega⟩, ?_⟩
                            exact ⟨rfl, (l + 6 - (t + 1)).toNat, by omega, t + 1, _, by omega, by omega, (by first | exact nx_done hc hm hc2_0 hEz (j := 0) (by omega) (by omega) | exact nx_no hc hm hc2_0 hEz (j := 0) (by omega) (fun e => by obtain ⟨g1, g2, g3, g4⟩ := held_at hc hm hEz (j := 0) (by omega); exact absurd (show (if askL b l d m hs ((x.drop 0).getD 0 0) = 0 then expT b l d ((x.drop 0).getD 0 0) else 0) = t by rw [if_pos (hc.ask g2 g3)]; exact e) (by assumption))), rfl, rfl, rfl⟩
                      · replace h97 : ¬ (0 < (((lokW b l d m hs x t).length : Nat) : Int)) := h97
                        refine ⟨fun h106 => absurd h106 (show ¬ (0 < (((lokW b l d m hs x t).length : Nat) : Int)) by first | omega | assumption | simp_all), fun h106 => ?_⟩
                        clear h106
                        refine ⟨⟨by show (-9223372036854775808 : Int) ≤ (t + 1); omega, by show (t + 1) ≤ (9223372036854775807 : Int); omega⟩, ?_⟩
                        exact ⟨rfl, (l + 6 - (t + 1)).toNat, by omega, t + 1, _, by omega, by omega, (by first | exact nx_done hc hm hc2_0 hEz (j := 0) (by omega) (by omega) | exact nx_no hc hm hc2_0 hEz (j := 0) (by omega) (fun e => by obtain ⟨g1, g2, g3, g4⟩ := held_at hc hm hEz (j := 0) (by omega); exact absurd (show (if askL b l d m hs ((x.drop 0).getD 0 0) = 0 then expT b l d ((x.drop 0).getD 0 0) else 0) = t by rw [if_pos (hc.ask g2 g3)]; exact e) (by assumption))), rfl, rfl, rfl⟩
                    · have alt := 1
                      have hEz : lokE b l d m hs x t = 0 := look_err hc hm.bd hm.srt (by omega) (by omega)
                      obtain ⟨hwl, hwa⟩ := wipe_at hc hm.bd hm.srt hEz
                      have hlf : lft (lokW b l d m hs x t).length j = (lokW b l d m hs x t).length - j := rfl
                      have hld : (x.drop j).length = x.length - j := List.length_drop
                      have hl0 : (x.drop 0).length = x.length := rfl
                      clear hwa
                      refine ⟨fun h107 => ?_, fun h107 => ?_⟩
                      · replace h107 : 0 < (((lft (lokW b l d m hs x t).length j) : Nat) : Int) := h107
                        refine ⟨fun h108 => ?_, fun h108 => absurd (show 0 < (((x.drop j).length : Nat) : Int) by omega) h108⟩
                        clear h108
                        refine ⟨fun h109 => ?_, fun h109 => absurd h109 (show ¬ (lk.getD ((t - b).toNat) false = true) by first | omega | assumption | simp_all)⟩
                        clear h109
                        refine ⟨⟨by show (-9223372036854775808 : Int) ≤ (l + 1); omega, by show (l + 1) ≤ (9223372036854775807 : Int); omega⟩, fun h110 => ?_, fun h110 => ?_⟩
                        · replace h110 : t = (l + 1) := h110
                          refine ⟨by kernel_rfl, ⟨by show (0 : Int) ≤ 0; omega, by show 0 < ((x.drop j).length : Int); omega⟩, ⟨by show (0 : Int) ≤ 0; omega, by show 0 < ((lft (lokW b l d m hs x t).length j) : Int); omega⟩, fun h111 => absurd h111 (show ¬ (((x.drop j).getD 0 0) ≠ ((lokW b l d m hs x t).getD (j + 0) 0)) by exact fun h => h (same_first hc hm hEz (j := j) (by omega))), fun h111 => ?_⟩
                          clear h111
                          refine ⟨by kernel_rfl, ⟨by omega, by omega⟩, ⟨by omega, by omega⟩, ⟨rfl, rfl, rfl⟩, ?_⟩
                          exact ⟨⟨rfl, rfl, by omega⟩, rfl, (lokW b l d m hs x t).length - (j + 1), by omega, .inr ⟨j + 1, by omega, rfl, rfl, by rw [List.drop_drop]; rfl⟩⟩
                        · replace h110 : ¬ (t = (l + 1)) := h110
                          refine ⟨fun h112 => ?_, fun h112 => absurd (show 0 < (((lft (lokW b l d m hs x t).length j) : Nat) : Int) by first | omega | assumption | simp_all) h112⟩
                          clear h112
                          refine ⟨fun h113 => ?_, fun h113 => absurd (show 0 < (((x.drop j).length : Nat) : Int) by omega) h113⟩
                          clear h113
                          refine ⟨by kernel_rfl, ⟨by show (0 : Int) ≤ 0; omega, by show 0 < ((x.drop j).length : Int); omega⟩, rfl, rfl, rfl, rfl, rfl, by show hs.length ≤ 2000000; first | omega | assumption, fun h114 => ?_, fun h114 => absurd h114 (show ¬ ((askL b l d m hs ((x.drop j).getD 0 0)) ≠ 0) by obtain ⟨g1, g2, g3, g4⟩ := held_at hc hm hEz (j := j) (by omega); exact fun h => h (hc.ask g2 g3))⟩
                          clear h114
                          refine ⟨fun h115 => ?_, fun h115 => ?_⟩
                          · replace h115 : (if askL b l d m hs ((x.drop j).getD 0 0) = 0 then expT b l d ((x.drop j).getD 0 0) else 0) = t := h115
                            refine ⟨⟨by omega, by omega⟩, ⟨by show (-9223372036854775808 : Int) ≤ (t + 1); omega, by show (t + 1) ≤ (9223372036854775807 : Int); omega⟩, ?_⟩
                            exact ⟨⟨rfl, rfl, by omega⟩, rfl, (l + 6 - (t + 1)).toNat, by omega, t + 1, _, by omega, by omega, nx_yes hc hm hc2_0 hEz (j := j) (by omega), rfl, rfl, by rw [List.drop_drop]; rfl⟩
                          · replace h115 : ¬ ((if askL b l d m hs ((x.drop j).getD 0 0) = 0 then expT b l d ((x.drop j).getD 0 0) else 0) = t) := h115
                            refine ⟨⟨by show (-9223372036854775808 : Int) ≤ (t + 1); omega, by show (t + 1) ≤ (9223372036854775807 : Int); omega⟩, ?_⟩
                            exact ⟨rfl, (l + 6 - (t + 1)).toNat, by omega, t + 1, _, by omega, by omega, (by first | exact nx_done hc hm hc2_0 hEz (j := j) (by omega) (by omega) | exact nx_no hc hm hc2_0 hEz (j := j) (by omega) (fun e => by obtain ⟨g1, g2, g3, g4⟩ := held_at hc hm hEz (j := j) (by omega); exact absurd (show (if askL b l d m hs ((x.drop j).getD 0 0) = 0 then expT b l d ((x.drop j).getD 0 0) else 0) = t by rw [if_pos (hc.ask g2 g3)]; exact e) (by assumption))), rfl, rfl, rfl⟩
                      · replace h107 : ¬ (0 < (((lft (lokW b l d m hs x t).length j) : Nat) : Int)) := h107
                        refine ⟨fun h116 => absurd h116 (show ¬ (0 < (((lft (lokW b l d m hs x t).length j) : Nat) : Int)) by first | omega | assumption | simp_all), fun h116 => ?_⟩
                        clear h116
                        refine ⟨⟨by show (-9223372036854775808 : Int) ≤ (t + 1); omega, by show (t + 1) ≤ (9223372036854775807 : Int); omega⟩, ?_⟩
                        exact ⟨rfl, (l + 6 - (t + 1)).toNat, by omega, t + 1, _, by omega, by omega, (by first | exact nx_done hc hm hc2_0 hEz (j := j) (by omega) (by omega) | exact nx_no hc hm hc2_0 hEz (j := j) (by omega) (fun e => by obtain ⟨g1, g2, g3, g4⟩ := held_at hc hm hEz (j := j) (by omega); exact absurd (show (if askL b l d m hs ((x.drop j).getD 0 0) = 0 then expT b l d ((x.drop j).getD 0 0) else 0) = t by rw [if_pos (hc.ask g2 g3)]; exact e) (by assumption))), rfl, rfl, rfl⟩
                · replace h39 : ¬ ((t - b) < (lk.length : Int)) := h39
                  refine ⟨by kernel_rfl, rfl, rfl, rfl, rfl, rfl, ⟨by show hs.length ≤ 2000000; first | omega | assumption, by show x.length ≤ 2000000; first | omega | assumption⟩, ⟨rfl, rfl, rfl, Nat.le_of_ble_eq_true rfl⟩, fun h117 => ?_, fun h117 => absurd h117 (show ¬ ((lokE b l d m hs x t) ≠ 0) by exact fun h => h (look_err hc hm.bd hm.srt (by omega) (by omega)))⟩
                  clear h117
                  refine ⟨fun h118 => ?_, fun h118 => absurd h118 (show ¬ (lokL b l d m hs x t) by exact no_lack hc hm hc2_0)⟩
                  clear h118
                  refine ⟨fun h119 => absurd h119 (show ¬ (0 < (((lokR b l d m hs x t).length : Nat) : Int)) by rw [early_none hm.ear]; decide), fun h119 => ?_⟩
                  clear h119
                  refine ⟨10, [(1, .k), (2, .k), (13, .o (.int .i64)), (14, .k), (18, .k), (19, .k)], fun nM vs H => (∃ (j : Nat), j = 0 ∧ nM = (lokW b l d m hs x t).length - j ∧ vs = [.sl false .bool lk, .ptr 0 1 0 0, .own (.int .i64) 1, .int .i64 t, .b (false = true), .ptr 9 1 0 0] ∧ H = [.cells [.int .i64 b, .int .i64 l, .int .i64 d, .int .i64 m, .sl false (.int .i64) hs], .row true (.int .i64) (x.drop 0), .row true (.int .i64) (lokW b l d m hs z t), .row true (.int .i64) (lokT b l d m hs z t), .row true (.int .i64) (lokR b l d m hs z t), .cells [.int .i64 (lokM b l d m hs z t), .int .i64 (lokY b l d m hs z t), .b (lokL b l d m hs z t), .own (.int .i64) 2, .own (.int .i64) 3, .own (.int .i64) 4], .row true (.int .i64) (lokW b l d m hs x t), .row true (.int .i64) (lokT b l d m hs x t), .row true (.int .i64) (lokR b l d m hs x t), .cells [.int .i64 (lokM b l d m hs x t), .int .i64 (lokY b l d m hs x t), .b (lokL b l d m hs x t), .own (.int .i64) 6, .own (.int .i64) 7, .own (.int .i64) 8]]) ∨ (∃ (j : Nat), j ≤ (lokW b l d m hs x t).length ∧ nM = (lokW b l d m hs x t).length - j ∧ vs = [.sl false .bool lk, .ptr 0 1 0 0, .own (.int .i64) 1, .int .i64 t, .b (false = true), .ptr 9 1 0 0] ∧ H = [.cells [.int .i64 b, .int .i64 l, .int .i64 d, .int .i64 m, .sl false (.int .i64) hs], .row true (.int .i64) (x.drop j), .row true (.int .i64) (lokW b l d m hs z t), .row true (.int .i64) (lokT b l d m hs z t), .row true (.int .i64) (lokR b l d m hs z t), .cells [.int .i64 (lokM b l d m hs z t), .int .i64 (lokY b l d m hs z t), .b (lokL b l d m hs z t), .own (.int .i64) 2, .own (.int .i64) 3, .own (.int .i64) 4], .row true (.int .i64) (lokW b l d m hs x t), .row true (.int .i64) (lokT b l d m hs x t), .row true (.int .i64) (lokR b l d m hs x t), .cells [.int .i64 (lokM b l d m hs x t), .int .i64 (lokY b l d m hs x t), .b (lokL b l d m hs x t), .slc (.int .i64) 6 j (lft (lokW b l d m hs x t).length j), .own (.int .i64) 7, .own (.int .i64) 8]]), ⟨rfl, (lokW b l d m hs x t).length, .inl ⟨0, rfl, by omega, rfl, rfl⟩⟩, ?_⟩
                  rintro nM vs H (⟨j, hj0, rfl, rfl, rfl⟩ | ⟨j, hj0, rfl, rfl, rfl⟩)
                  · have alt := 0
                    have hEz : lokE b l d m hs x t = 0 := look_err hc hm.bd hm.srt (by omega) (by omega)
                    obtain ⟨hwl, hwa⟩ := wipe_at hc hm.bd hm.srt hEz
                    have hlf : lft (lokW b l d m hs x t).length j = (lokW b l d m hs x t).length - j := rfl
                    have hld : (x.drop j).length = x.length - j := List.length_drop
                    have hl0 : (x.drop 0).length = x.length := rfl
                    clear hwa
                    refine ⟨fun h120 => ?_, fun h120 => ?_⟩
                    · replace h120 : 0 < (((lokW b l d m hs x t).length : Nat) : Int) := h120
                      refine ⟨fun h121 => ?_, fun h121 => absurd (show 0 < (((x.drop 0).length : Nat) : Int) by omega) h121⟩
                      clear h121
                      refine ⟨fun h122 => ?_, fun h122 => ?_⟩
                      · replace h122 : ¬ (false = true) := h122
                        refine ⟨⟨by show (-9223372036854775808 : Int) ≤ (l + 1); omega, by show (l + 1) ≤ (9223372036854775807 : Int); omega⟩, fun h123 => ?_, fun h123 => ?_⟩
                        · replace h123 : t = (l + 1) := h123
                          refine ⟨by kernel_rfl, ⟨by show (0 : Int) ≤ 0; omega, by show 0 < ((x.drop 0).length : Int); omega⟩, ⟨by show (0 : Int) ≤ 0; omega, by show 0 < ((lokW b l d m hs x t).length : Int); omega⟩, fun h124 => absurd h124 (show ¬ (((x.drop 0).getD 0 0) ≠ ((lokW b l d m hs x t).getD 0 0)) by exact fun h => h (same_first hc hm hEz (j := 0) (by omega))), fun h124 => ?_⟩
                          clear h124
                          refine ⟨by kernel_rfl, ⟨by omega, by omega⟩, ⟨by omega, by omega⟩, ⟨rfl, rfl, rfl⟩, ?_⟩
                          exact ⟨⟨rfl, rfl, by omega⟩, rfl, (lokW b l d m hs x t).length - 1, by omega, .inr ⟨1, by omega, rfl, rfl, rfl⟩⟩
                        · replace h123 : ¬ (t = (l + 1)) := h123
                          refine ⟨fun h125 => ?_, fun h125 => absurd (show 0 < (((lokW b l d m hs x t).length : Nat) : Int) by first | omega | assumption | simp_all) h125⟩
                          clear h125
                          refine ⟨fun h126 => ?_, fun h126 => absurd (show 0 < (((x.drop 0).length : Nat) : Int) by omega) h126⟩
                          clear h126
                          refine ⟨by kernel_rfl, ⟨by show (0 : Int) ≤ 0; omega, by show 0 < ((x.drop 0).length : Int); omega⟩, rfl, rfl, rfl, rfl, rfl, by show hs.length ≤ 2000000; first | omega | assumption, fun h127 => ?_, fun h127 => absurd h127 (show ¬ ((askL b l d m hs ((x.drop 0).getD 0 0)) ≠ 0) by obtain ⟨g1, g2, g3, g4⟩ := held_at hc hm hEz (j := 0) (by omega); exact fun h => h (hc.ask g2 g3))⟩
                          clear h127
                          refine ⟨fun h128 => ?_, fun h128 => ?_⟩
                          · replace h128 : (if askL b l d m hs ((x.drop 0).getD 0 0) = 0 then expT b l d ((x.drop 0).getD 0 0) else 0) = t := h128
                            refine ⟨⟨by omega, by omega⟩, ⟨by show (-9223372036854775808 : Int) ≤ (t + 1); omega, by show (t + 1) ≤ (9223372036854775807 : Int); omega⟩, ?_⟩
                            exact ⟨⟨rfl, rfl, by omega⟩, rfl, (l + 6 - (t + 1)).toNat, by omega, t + 1, _, by omega, by omega, nx_yes hc hm hc2_0 hEz (j := 0) (by omega), rfl, rfl, by rw [List.drop_drop]; rfl⟩
                          · replace h128 : ¬ ((if askL b l d m hs ((x.drop 0).getD 0 0) = 0 then expT b l d ((x.drop 0).getD 0 0) else 0) = t) := h128
                            refine ⟨⟨by show (-9223372036854775808 : Int) ≤ (t + 1); omega, by show (t + 1) ≤ (9223372036854775807 : Int); omega⟩, ?_⟩
                            exact ⟨rfl, (l + 6 - (t + 1)).toNat, by omega, t + 1, _, by omega, by omega, (by first | exact nx_done hc hm hc2_0 hEz (j := 0) (by omega) (by omega) | exact nx_no hc hm hc2_0 hEz (j := 0) (by omega) (fun e => by obtain ⟨g1, g2, g3, g4⟩ := held_at hc hm hEz (j := 0) (by omega); exact absurd (show (if askL b l d m hs ((x.drop 0).getD 0 0) = 0 then expT b l d ((x.drop 0).getD 0 0) else 0) = t by rw [if_pos (hc.ask g2 g3)]; exact e) (by assumption))), rfl, rfl, rfl⟩
                      · replace h122 : false = true := h122
                        refine ⟨by kernel_rfl, ⟨by show (0 : Int) ≤ 0; omega, by show 0 < ((x.drop 0).length : Int); omega⟩, ⟨by show (0 : Int) ≤ 0; omega, by show 0 < ((lokW b l d m hs x t).length : Int); omega⟩, fun h129 => absurd h129 (show ¬ (((x.drop 0).getD 0 0) ≠ ((lokW b l d m hs x t).getD 0 0)) by exact fun h => h (same_first hc hm hEz (j := 0) (by omega))), fun h129 => ?_⟩
                        clear h129
                        refine ⟨by kernel_rfl, ⟨by omega, by omega⟩, ⟨by omega, by omega⟩, ⟨rfl, rfl, rfl⟩, ?_⟩
                        exact ⟨⟨rfl, rfl, by omega⟩, rfl, (lokW b l d m hs x t).length - 1, by omega, .inr ⟨1, by omega, rfl, rfl, rfl⟩⟩
                    · replace h120 : ¬ (0 < (((lokW b l d m hs x t).length : Nat) : Int)) := h120
                      refine ⟨fun h130 => absurd h130 (show ¬ (0 < (((lokW b l d m hs x t).length : Nat) : Int)) by first | omega | assumption | simp_all), fun h130 => ?_⟩
                      clear h130
                      refine ⟨⟨by show (-9223372036854775808 : Int) ≤ (t + 1); omega, by show (t + 1) ≤ (9223372036854775807 : Int); omega⟩, ?_⟩
                      exact ⟨rfl, (l + 6 - (t + 1)).toNat, by omega, t + 1, _, by omega, by omega, (by first | exact nx_done hc hm hc2_0 hEz (j := 0) (by omega) (by omega) | exact nx_no hc hm hc2_0 hEz (j := 0) (by omega) (fun e => by obtain ⟨g1, g2, g3, g4⟩ := held_at hc hm hEz (j := 0) (by omega); exact absurd (show (if askL b l d m hs ((x.drop 0).getD 0 0) = 0 then expT b l d ((x.drop 0).getD 0 0) else 0) = t by rw [if_pos (hc.ask g2 g3)]; exact e) (by assumption))), rfl, rfl, rfl⟩
                  · have alt := 1
                    have hEz : lokE b l d m hs x t = 0 := look_err hc hm.bd hm.srt (by omega) (by omega)
                    obtain ⟨hwl, hwa⟩ := wipe_at hc hm.bd hm.srt hEz
                    have hlf : lft (lokW b l d m hs x t).length j = (lokW b l d m hs x t).length - j := rfl
                    have hld : (x.drop j).length = x.length - j := List.length_drop
                    have hl0 : (x.drop 0).length = x.length := rfl
                    clear hwa
                    refine ⟨fun h131 => ?_, fun h131 => ?_⟩
                    · replace h131 : 0 < (((lft (lokW b l d m hs x t).length j) : Nat) : Int) := h131
                      refine ⟨fun h132 => ?_, fun h132 => absurd (show 0 < (((x.drop j).length : Nat) : Int) by omega) h132⟩
                      clear h132
                      refine ⟨fun h133 => ?_, fun h133 => ?_⟩
                      · replace h133 : ¬ (false = true) := h133
                        refine ⟨⟨by show (-9223372036854775808 : Int) ≤ (l + 1); omega, by show (l + 1) ≤ (9223372036854775807 : Int); omega⟩, fun h134 => ?_, fun h134 => ?_⟩
                        · replace h134 : t = (l + 1) := h134
                          refine ⟨by kernel_rfl, ⟨by show (0 : Int) ≤ 0; omega, by show 0 < ((x.drop j).length : Int); omega⟩, ⟨by show (0 : Int) ≤ 0; omega, by show 0 < ((lft (lokW b l d m hs x t).length j) : Int); omega⟩, fun h135 => absurd h135 (show ¬ (((x.drop j).getD 0 0) ≠ ((lokW b l d m hs x t).getD (j + 0) 0)) by exact fun h => h (same_first hc hm hEz (j := j) (by omega))), fun h135 => ?_⟩
                          clear h135
                          refine ⟨by kernel_rfl, ⟨by omega, by omega⟩, ⟨by omega, by omega⟩, ⟨rfl, rfl, rfl⟩, ?_⟩
                          exact ⟨⟨rfl, rfl, by omega⟩, rfl, (lokW b l d m hs x t).length - (j + 1), by omega, .inr ⟨j + 1, by omega, rfl, rfl, by rw [List.drop_drop]; rfl⟩⟩
                        · replace h134 : ¬ (t = (l + 1)) := h134
                          refine ⟨fun h136 => ?_, fun h136 => absurd (show 0 < (((lft (lokW b l d m hs x t).length j) : Nat) : Int) by first | omega | assumption | simp_all) h136⟩
                          clear h136
                          refine ⟨fun h137 => ?_, fun h137 => absurd (show 0 < (((x.drop j).length : Nat) : Int) by omega) h137⟩
                          clear h137
                          refine ⟨by kernel_rfl, ⟨by show (0 : Int) ≤ 0; omega, by show 0 < ((x.drop j).length : Int); omega⟩, rfl, rfl, rfl, rfl, rfl, by show hs.length ≤ 2000000; first | omega | assumption, fun h138 => ?_, fun h138 => absurd h138 (show ¬ ((askL b l d m hs ((x.drop j).getD 0 0)) ≠ 0) by obtain ⟨g1, g2, g3, g4⟩ := held_at hc hm hEz (j := j) (by omega); exact fun h => h (hc.ask g2 g3))⟩
                          clear h138
                          refine ⟨fun h139 => ?_, fun h139 => ?_⟩
                          · replace h139 : (if askL b l d m hs ((x.drop j).getD 0 0) = 0 then expT b l d ((x.drop j).getD 0 0) else 0) = t := h139
                            refine ⟨⟨by omega, by omega⟩, ⟨by show (-9223372036854775808 : Int) ≤ (t + 1); omega, by show (t + 1) ≤ (9223372036854775807 : Int); omega⟩, ?_⟩
                            exact ⟨⟨rfl, rfl, by omega⟩, rfl, (l + 6 - (t + 1)).toNat, by omega, t + 1, _, by omega, by omega, nx_yes hc hm hc2_0 hEz (j := j) (by omega), rfl, rfl, by rw [List.drop_drop]; rfl⟩
                          · replace h139 : ¬ ((if askL b l d m hs ((x.drop j).getD 0 0) = 0 then expT b l d ((x.drop j).getD 0 0) else 0) = t) := h139
                            refine ⟨⟨by show (-9223372036854775808 : Int) ≤ (t + 1); omega, by show (t + 1) ≤ (9223372036854775807 : Int); omega⟩, ?_⟩
                            exact ⟨rfl, (l + 6 - (t + 1)).toNat, by omega, t + 1, _, by omega, by omega, (by first | exact nx_done hc hm hc2_0 hEz (j := j) (by omega) (by omega) | exact nx_no hc hm hc2_0 hEz (j := j) (by omega) (fun e => by obtain ⟨g1, g2, g3, g4⟩ := held_at hc hm hEz (j := j) (by omega); exact absurd (show (if askL b l d m hs ((x.drop j).getD 0 0) = 0 then expT b l d ((x.drop j).getD 0 0) else 0) = t by rw [if_pos (hc.ask g2 g3)]; exact e) (by assumption))), rfl, rfl, rfl⟩
                      · replace h133 : false = true := h133
                        refine ⟨by kernel_rfl, ⟨by show (0 : Int) ≤ 0; omega, by show 0 < ((x.drop j).length : Int); omega⟩, ⟨by show (0 : Int) ≤ 0; omega, by show 0 < ((lft (lokW b l d m hs x t).length j) : Int); omega⟩, fun h140 => absurd h140 (show ¬ (((x.drop j).getD 0 0) ≠ ((lokW b l d m hs x t).getD (j + 0) 0)) by exact fun h => h (same_first hc hm hEz (j := j) (by omega))), fun h140 => ?_⟩
                        clear h140
                        refine ⟨by kernel_rfl, ⟨by omega, by omega⟩, ⟨by omega, by omega⟩, ⟨rfl, rfl, rfl⟩, ?_⟩
                        exact ⟨⟨rfl, rfl, by omega⟩, rfl, (lokW b l d m hs x t).length - (j + 1), by omega, .inr ⟨j + 1, by omega, rfl, rfl, by rw [List.drop_drop]; rfl⟩⟩
                    · replace h131 : ¬ (0 < (((lft (lokW b l d m hs x t).length j) : Nat) : Int)) := h131
                      refine ⟨fun h141 => absurd h141 (show ¬ (0 < (((lft (lokW b l d m hs x t).length j) : Nat) : Int)) by first | omega | assumption | simp_all), fun h141 => ?_⟩
                      clear h141
                      refine ⟨⟨by show (-9223372036854775808 : Int) ≤ (t + 1); omega, by show (t + 1) ≤ (9223372036854775807 : Int); omega⟩, ?_⟩
                      exact ⟨rfl, (l + 6 - (t + 1)).toNat, by omega, t + 1, _, by omega, by omega, (by first | exact nx_done hc hm hc2_0 hEz (j := j) (by omega) (by omega) | exact nx_no hc hm hc2_0 hEz (j := j) (by omega) (fun e => by obtain ⟨g1, g2, g3, g4⟩ := held_at hc hm hEz (j := j) (by omega); exact absurd (show (if askL b l d m hs ((x.drop j).getD 0 0) = 0 then expT b l d ((x.drop j).getD 0 0) else 0) = t by rw [if_pos (hc.ask g2 g3)]; exact e) (by assumption))), rfl, rfl, rfl⟩
            · replace h16 : ¬ (t ≤ (l + 5)) := h16
              refine ⟨trivial, ?_⟩
              exact ⟨rfl, rfl, congrArg V.b (propext ⟨fun _ => trivial, fun _ => by first | trivial | rfl⟩), rfl⟩
      · replace h2 : 2000 < (l - b) := h2
        refine ⟨trivial, ?_⟩
        exact ⟨rfl, rfl, congrArg V.b (propext ⟨fun _ => trivial, fun _ => by first | trivial | rfl⟩), rfl⟩
    · replace h1 : ¬ (fewP b l d m hs 60) := h1
      refine ⟨trivial, ?_⟩
      exact ⟨rfl, rfl, congrArg V.b (propext ⟨fun _ => trivial, fun _ => by first | trivial | rfl⟩), rfl⟩
  · replace h0 : (chkL b l d m hs) ≠ 0 := h0
    refine ⟨trivial, ?_⟩
    exact ⟨rfl, rfl, congrArg V.b (propext ⟨fun _ => trivial, fun _ => by first | trivial | rfl⟩), rfl⟩
end Go.Proofs.Ytgljcfnplkcfhaa.S29

/- Texts of this claim: S26.D4, S26.CdSplitRestores. -/
import Derived.Test.YtakbedmeieeekaaDoorS4
import Derived.Test.YtakbedmeieeekaaDoorS5
set_option linter.unusedVariables false
set_option linter.unusedSimpArgs false
namespace Go.Proofs.YtakbedmeieeekaaDoor.S26
open Go Go.Proofs.YtakbedmeieeekaaDoor.Vc Go.Proofs
set_option maxRecDepth 100000
set_option linter.unusedVariables false

def sLRes : List V → Option (Prop × V × List Blk)
  | [.agg [.str sec, .int .i64 nd, .sl false (.int .i64) hs, .str nz], .int .u16 mask, .u8 ho] => some (sec.length ≤ 1048576 ∧ hs.length ≤ 1048576 ∧ nz.length ≤ 1048576 ∧ 0 ≤ mask ∧ mask ≤ 65535, .b True, [])
  | _ => none
set_option maxHeartbeats 4000000 in
theorem bLRes (sec : List UInt8) (nd : Int) (hs : List Int) (nz : List UInt8) (mask : Int) (ho : UInt8) (hp0 : sec.length ≤ 1048576) (hp1 : hs.length ≤ 1048576) (hp2 : nz.length ≤ 1048576) (hp3 : 0 ≤ mask) (hp4 : mask ≤ 65535) : bodyP (En CSan tys G6 QCo2 [1000002]) Tryd.f6 [.k] [.agg [.str sec, .int .i64 nd, .sl false (.int .i64) hs, .str nz], .int .u16 mask, .u8 ho] (.b True) [] := by
  refine ⟨rfl, rfl, ⟨by show sec.length ≤ 1048576; first | omega | assumption, by show hs.length ≤ 1048576; first | omega | assumption⟩, fun h0 => ?_, fun h0 => ?_⟩
  · replace h0 : ¬ (smlP sec hs 100) := h0
    refine ⟨trivial, ?_⟩
    exact ⟨rfl, rfl, rfl, rfl⟩
  · replace h0 : ¬ (¬ (smlP sec hs 100)) := h0
    refine ⟨rfl, ⟨by show sec.length ≤ 1048576; first | omega | assumption, by show hs.length ≤ 1048576; first | omega | assumption, by show nz.length ≤ 1048576; first | omega | assumption⟩, fun h1 => ?_, fun h1 => ?_⟩
    · replace h1 : (splE sec nd hs nz) ≠ 0 := h1
      refine ⟨trivial, fun h2 => ?_, fun h2 => absurd (show True by simp) h2⟩
      exact ⟨rfl, rfl, congrArg V.b (propext ⟨fun _ => trivial, fun _ => by rw [show (splL sec nd hs nz) = [] from if_neg h1]; rfl⟩), rfl⟩
    · replace h1 : ¬ ((splE sec nd hs nz) ≠ 0) := h1
      have hS := spl0 (Classical.not_not.1 h1)
      have hll := hS.llen
      have hl12 := hs_12 hS.ok
      refine ⟨2, [(1, .k), (2, .k), (3, .k), (7, .k), (9, .o (.int .i64)), (45, .k)], fun nM vs H => ∃ (k : Nat), k ≤ 12 ∧ nM = 12 - k ∧ vs = [.int .u16 mask, .u8 ho, .ptr 0 1 0 0, .own (.cons (.int .i64) (.cons .str .nil)) 1, .own (.int .i64) 2, .int .i64 (k : Int)] ∧ H = [.cells [.str sec, .int .i64 nd, .sl false (.int .i64) hs, .str nz], .row true (.cons (.int .i64) (.cons .str .nil)) (splL sec nd hs nz), .row true (.int .i64) (evK k)], ⟨rfl, 12, 0, by omega, by omega, rfl, rfl⟩, ?_⟩
      rintro nM vs H ⟨k, hc1_0, rfl, rfl, rfl⟩
      have hel := evK_len k
      refine ⟨fun h3 => ?_, fun h3 => ?_⟩
      · replace h3 : (k : Int) < 12 := h3
        refine ⟨rfl, ⟨rfl, rfl⟩, by show (evK k).length + ([(k : Int)] : List Int).length ≤ 1000000000; simp only [List.length_cons, List.length_nil]; omega, ⟨by show (-9223372036854775808 : Int) ≤ ((k : Int) + 1); omega, by show ((k : Int) + 1) ≤ (9223372036854775807 : Int); omega⟩, ?_⟩
        exact ⟨rfl, 12 - (k + 1), by omega, k + 1, by omega, rfl, rfl, by rw [evK_snoc]; rfl⟩
      · replace h3 : ¬ ((k : Int) < 12) := h3
        have hk12 : k = 12 := by omega
        have hA := hS.every
        rw [← hk12] at hA
        have hal := hA.llen
        rw [evK_len] at hal
        refine ⟨rfl, ⟨by show sec.length ≤ 1048576; first | omega | assumption, by show (evK k).length ≤ 1048576; first | omega | assumption, by show nz.length ≤ 1048576; first | omega | assumption⟩, fun h4 => ?_, fun h4 => ?_⟩
        · replace h4 : ¬ ((splE sec nd (evK k) nz) ≠ 0) := h4
          refine ⟨fun h5 => ?_, fun h5 => ?_⟩
          · replace h5 : ¬ ((((splL sec nd (evK k) nz).length : Nat) : Int) ≠ 12) := h5
            refine ⟨fun h6 => ?_, fun h6 => ?_⟩
            · replace h6 : (((splL sec nd hs nz).length : Nat) : Int) ≠ (hs.length : Int) := h6
              omega
            · replace h6 : ¬ ((((splL sec nd hs nz).length : Nat) : Int) ≠ (hs.length : Int)) := h6
              refine ⟨4, [(1, .k), (2, .k), (3, .k), (7, .k), (11, .k), (80, .k), (81, .k), (82, .k)], fun nM vs H => ∃ (q : Nat), q ≤ hs.length ∧ nM = hs.length - q ∧ vs = [.int .u16 mask, .u8 ho, .ptr 0 1 0 0, .own (.cons (.int .i64) (.cons .str .nil)) 1, .own (.cons (.int .i64) (.cons .str .nil)) 3, .sl false (.int .i64) hs, .int .i64 (hs.length : Int), .int .i64 (q : Int)] ∧ H = [.cells [.str sec, .int .i64 nd, .sl false (.int .i64) hs, .str nz], .row true (.cons (.int .i64) (.cons .str .nil)) (splL sec nd hs nz), .row true (.int .i64) (evK k), .row true (.cons (.int .i64) (.cons .str .nil)) (splL sec nd (evK k) nz)], ⟨rfl, hs.length, 0, by omega, by omega, rfl, rfl⟩, ?_⟩
              rintro nM vs H ⟨q, hc2_0, rfl, rfl, rfl⟩
              refine ⟨fun h7 => ?_, fun h7 => ?_⟩
              · replace h7 : (q : Int) < (hs.length : Int) := h7
                have hq : q < hs.length := by omega
                have hkn := (hs_get hS.ok hq).1
                obtain ⟨q1, q2⟩ := id hkn
                have hsame : (splL sec nd hs nz).getD q (0, [], ()) = (splL sec nd (evK k) nz).getD (hs.getD q 0).toNat (0, [], ()) := by rw [hS.get hq, hk12, hS.all hkn]
                refine ⟨⟨by show (0 : Int) ≤ (q : Int); omega, by show (q : Int) < (hs.length : Int); omega⟩, by kernel_rfl, fun h8 => ?_, fun h8 => ?_⟩
                · replace h8 : ¬ ((hs.getD q 0) < 0) := h8
                  refine ⟨fun h9 => ?_, fun h9 => absurd h9 (show ¬ ((hs.getD q 0) < 0) by first | omega | assumption | simp_all)⟩
                  refine ⟨fun h10 => ?_, fun h10 => absurd h10 (show ¬ ((hs.getD q 0) < 0) by first | omega | assumption | simp_all)⟩
                  refine ⟨fun h11 => ?_, fun h11 => absurd h11 (show ¬ ((hs.getD q 0) < 0) by first | omega | assumption | simp_all)⟩
                  refine ⟨fun h12 => absurd h12 (show ¬ ((hs.getD q 0) < 0) by first | omega | assumption | simp_all), fun h12 => ?_⟩
                  refine ⟨fun h13 => ?_, fun h13 => ?_⟩
                  · replace h13 : ¬ ((((splL sec nd (evK k) nz).length : Nat) : Int) ≤ (hs.getD q 0)) := h13
                    refine ⟨fun h14 => ?_, fun h14 => absurd h14 (show ¬ ((((splL sec nd (evK k) nz).length : Nat) : Int) ≤ (hs.getD q 0)) by first | omega | assumption | simp_all)⟩
                    refine ⟨fun h15 => ?_, fun h15 => absurd h15 (show ¬ ((((splL sec nd (evK k) nz).length : Nat) : Int) ≤ (hs.getD q 0)) by first | omega | assumption | simp_all)⟩
                    refine ⟨⟨by show (0 : Int) ≤ (q : Int); omega, by show (q : Int) < ((splL sec nd hs nz).length : Int); omega⟩, fun h16 => ?_, fun h16 => absurd h16 (show ¬ ((((splL sec nd (evK k) nz).length : Nat) : Int) ≤ (hs.getD q 0)) by first | omega | assumption | simp_all)⟩
                    refine ⟨fun h17 => ?_, fun h17 => absurd h17 (show ¬ ((((splL sec nd (evK k) nz).length : Nat) : Int) ≤ (hs.getD q 0)) by first | omega | assumption | simp_all)⟩
                    refine ⟨fun h18 => ?_, fun h18 => absurd h18 (show ¬ ((((splL sec nd (evK k) nz).length : Nat) : Int) ≤ (hs.getD q 0)) by first | omega | assumption | simp_all)⟩
                    refine ⟨fun h19 => ?_, fun h19 => absurd h19 (show ¬ ((((splL sec nd (evK k) nz).length : Nat) : Int) ≤ (hs.getD q 0)) by first | omega | assumption | simp_all)⟩
                    refine ⟨⟨by show (0 : Int) ≤ hs.getD q 0; omega, by show hs.getD q 0 < ((splL sec nd (evK k) nz).length : Int); omega⟩, fun h20 => ?_, fun h20 => absurd h20 (show ¬ ((((splL sec nd (evK k) nz).length : Nat) : Int) ≤ (hs.getD q 0)) by first | omega | assumption | simp_all)⟩
                    refine ⟨fun h21 => ?_, fun h21 => absurd h21 (show ¬ ((((splL sec nd (evK k) nz).length : Nat) : Int) ≤ (hs.getD q 0)) by first | omega | assumption | simp_all)⟩
                    refine ⟨fun h22 => absurd h22 (show ¬ ((((splL sec nd (evK k) nz).length : Nat) : Int) ≤ (hs.getD q 0)) by first | omega | assumption | simp_all), fun h22 => ?_⟩
                    refine ⟨fun h23 => ?_, fun h23 => ?_⟩
                    · replace h23 : ¬ ((((splL sec nd hs nz).getD q (0, ([], ()))).1) = (((splL sec nd (evK k) nz).getD ((hs.getD q 0).toNat) (0, ([], ()))).1) ∧ (((((splL sec nd hs nz).getD q (0, ([], ()))).2).1) = ((((splL sec nd (evK k) nz).getD ((hs.getD q 0).toNat) (0, ([], ()))).2).1) ∧ True)) := h23
                      exact absurd ⟨congrArg (·.1) hsame, congrArg (·.2.1) hsame, trivial⟩ h23
                    · replace h23 : ¬ (¬ ((((splL sec nd hs nz).getD q (0, ([], ()))).1) = (((splL sec nd (evK k) nz).getD ((hs.getD q 0).toNat) (0, ([], ()))).1) ∧ (((((splL sec nd hs nz).getD q (0, ([], ()))).2).1) = ((((splL sec nd (evK k) nz).getD ((hs.getD q 0).toNat) (0, ([], ()))).2).1) ∧ True))) := h23
                      refine ⟨⟨by show (-9223372036854775808 : Int) ≤ ((q : Int) + 1); omega, by show ((q : Int) + 1) ≤ (9223372036854775807 : Int); omega⟩, ?_⟩
                      exact ⟨rfl, hs.length - (q + 1), by omega, q + 1, by omega, rfl, rfl, rfl⟩
                  · replace h13 : (((splL sec nd (evK k) nz).length : Nat) : Int) ≤ (hs.getD q 0) := h13
                    omega
                · replace h8 : (hs.getD q 0) < 0 := h8
                  omega
              · replace h7 : ¬ ((q : Int) < (hs.length : Int)) := h7
                have hp := sm_sub (splL sec nd hs nz) mask
                have hkx : knw ((ho.toNat : Int) % 12) := ⟨by omega, by omega⟩
                refine ⟨rfl, ⟨by show (splL sec nd hs nz).length ≤ 16; omega, by show 0 ≤ mask; first | omega | assumption⟩, .inl ⟨⟨by show (0 : Int) ≤ (ho.toNat : Int); omega, by show (0 : Int) < 12; omega⟩, ?_⟩⟩
                refine ⟨rfl, Nat.le_trans (smK_len _ _ _) (by show (splL sec nd hs nz).length ≤ 1048576; omega), rfl, rfl, Nat.le_trans (smK_len _ _ _) (by show (splL sec nd hs nz).length ≤ 1048576; omega), ⟨rfl, rfl, rfl, Nat.le_of_ble_eq_true rfl⟩, fun h24 => ?_, fun h24 => ?_⟩
                · replace h24 : (((smK (splL sec nd hs nz) mask (splL sec nd hs nz).length).length : Nat) : Int) < nd := h24
                  obtain ⟨f1, f2, f3, f4, f5⟩ := part_few hS hp hkx h24
                  refine ⟨trivial, fun h25 => ?_, fun h25 => absurd (show True by simp) h25⟩
                  refine ⟨fun h26 => ?_, fun h26 => ?_⟩
                  · replace h26 : (joE (smK (splL sec nd hs nz) mask (splL sec nd hs nz).length) nd) = 29 := h26
                    refine ⟨fun h27 => ?_, fun h27 => ?_⟩
                    · replace h27 : (exE (smK (splL sec nd hs nz) mask (splL sec nd hs nz).length) nd ((ho.toNat : Int) % 12)) = 29 := h27
                      refine ⟨fun h28 => ?_, fun h28 => ?_⟩
                      · replace h28 : (joS (smK (splL sec nd hs nz) mask (splL sec nd hs nz).length) nd 0) = ([]) := h28
                        exact ⟨rfl, rfl, congrArg V.b (propext ⟨fun _ => trivial, fun _ => ⟨f4, f5, trivial⟩⟩), rfl⟩
                      · replace h28 : ¬ ((joS (smK (splL sec nd hs nz) mask (splL sec nd hs nz).length) nd 0) = ([])) := h28
                        exact absurd f2 h28
                    · replace h27 : ¬ ((exE (smK (splL sec nd hs nz) mask (splL sec nd hs nz).length) nd ((ho.toNat : Int) % 12)) = 29) := h27
                      exact absurd f3 h27
                  · replace h26 : ¬ ((joE (smK (splL sec nd hs nz) mask (splL sec nd hs nz).length) nd) = 29) := h26
                    exact absurd f1 h26
                · replace h24 : ¬ ((((smK (splL sec nd hs nz) mask (splL sec nd hs nz).length).length : Nat) : Int) < nd) := h24
                  obtain ⟨f1, f2, f3, f4, f5⟩ := part_ok hS hp hkx h24
                  have hax : (splL sec nd (evK k) nz).getD ((ho.toNat : Int) % 12).toNat (0, [], ()) = shS sec nd nz ((ho.toNat : Int) % 12) := by rw [hk12, hS.all hkx]
                  refine ⟨by kernel_rfl, trivial, fun h29 => ?_, fun h29 => absurd (show True by simp) h29⟩
                  refine ⟨fun h30 => ?_, fun h30 => absurd (show True by simp) h30⟩
                  refine ⟨fun h31 => ?_, fun h31 => absurd (show True by simp) h31⟩
                  refine ⟨fun h32 => ?_, fun h32 => ?_⟩
                  · replace h32 : (joE (smK (splL sec nd hs nz) mask (splL sec nd hs nz).length) nd) = 0 := h32
                    refine ⟨fun h33 => ?_, fun h33 => absurd (show (joE (smK (splL sec nd hs nz) mask (splL sec nd hs nz).length) nd) = 0 by first | omega | assumption | simp_all) h33⟩
                    refine ⟨fun h34 => ?_, fun h34 => absurd (show (joE (smK (splL sec nd hs nz) mask (splL sec nd hs nz).length) nd) = 0 by first | omega | assumption | simp_all) h34⟩
                    refine ⟨fun h35 => ?_, fun h35 => absurd (show (joE (smK (splL sec nd hs nz) mask (splL sec nd hs nz).length) nd) = 0 by first | omega | assumption | simp_all) h35⟩
                    refine ⟨fun h36 => ?_, fun h36 => absurd (show (joE (smK (splL sec nd hs nz) mask (splL sec nd hs nz).length) nd) = 0 by first | omega | assumption | simp_all) h36⟩
                    refine ⟨fun h37 => ?_, fun h37 => ?_⟩
                    · replace h37 : (joS (smK (splL sec nd hs nz) mask (splL sec nd hs nz).length) nd 0) = sec := h37
                      refine ⟨fun h38 => ?_, fun h38 => absurd (show (joS (smK (splL sec nd hs nz) mask (splL sec nd hs nz).length) nd 0) = sec by first | omega | assumption | simp_all) h38⟩
                      refine ⟨fun h39 => ?_, fun h39 => absurd (show (joS (smK (splL sec nd hs nz) mask (splL sec nd hs nz).length) nd 0) = sec by first | omega | assumption | simp_all) h39⟩
                      refine ⟨fun h40 => ?_, fun h40 => ?_⟩
                      · replace h40 : (exE (smK (splL sec nd hs nz) mask (splL sec nd hs nz).length) nd ((ho.toNat : Int) % 12)) = 0 := h40
                        refine ⟨fun h41 => ?_, fun h41 => absurd (show (exE (smK (splL sec nd hs nz) mask (splL sec nd hs nz).length) nd ((ho.toNat : Int) % 12)) = 0 by first | omega | assumption | simp_all) h41⟩
                        refine ⟨fun h42 => ?_, fun h42 => absurd (show (exE (smK (splL sec nd hs nz) mask (splL sec nd hs nz).length) nd ((ho.toNat : Int) % 12)) = 0 by first | omega | assumption | simp_all) h42⟩
                        refine ⟨fun h43 => ?_, fun h43 => absurd (show (exE (smK (splL sec nd hs nz) mask (splL sec nd hs nz).length) nd ((ho.toNat : Int) % 12)) = 0 by first | omega | assumption | simp_all) h43⟩
                        refine ⟨⟨by show (0 : Int) ≤ ((ho.toNat : Int) % 12); omega, by show ((ho.toNat : Int) % 12) < ((splL sec nd (evK k) nz).length : Int); omega⟩, fun h44 => ?_, fun h44 => absurd (show (exE (smK (splL sec nd hs nz) mask (splL sec nd hs nz).length) nd ((ho.toNat : Int) % 12)) = 0 by first | omega | assumption | simp_all) h44⟩
                        refine ⟨fun h45 => ?_, fun h45 => absurd (show (exE (smK (splL sec nd hs nz) mask (splL sec nd hs nz).length) nd ((ho.toNat : Int) % 12)) = 0 by first | omega | assumption | simp_all) h45⟩
                        refine ⟨fun h46 => ?_, fun h46 => absurd (show (exE (smK (splL sec nd hs nz) mask (splL sec nd hs nz).length) nd ((ho.toNat : Int) % 12)) = 0 by first | omega | assumption | simp_all) h46⟩
                        exact ⟨rfl, rfl, congrArg V.b (propext ⟨fun _ => trivial, fun _ => ⟨f4.trans (congrArg (·.1) hax).symm, f5.trans (congrArg (·.2.1) hax).symm, trivial⟩⟩), rfl⟩
                      · replace h40 : ¬ ((exE (smK (splL sec nd hs nz) mask (splL sec nd hs nz).length) nd ((ho.toNat : Int) % 12)) = 0) := h40
                        exact absurd f3 h40
                    · replace h37 : ¬ ((joS (smK (splL sec nd hs nz) mask (splL sec nd hs nz).length) nd 0) = sec) := h37
                      exact absurd f2 h37
                  · replace h32 : ¬ ((joE (smK (splL sec nd hs nz) mask (splL sec nd hs nz).length) nd) = 0) := h32
                    exact absurd f1 h32
          · replace h5 : (((splL sec nd (evK k) nz).length : Nat) : Int) ≠ 12 := h5
            omega
        · replace h4 : (splE sec nd (evK k) nz) ≠ 0 := h4
          exact absurd hA.e h4
end Go.Proofs.YtakbedmeieeekaaDoor.S26

namespace Go.Proofs.YtakbedmeieeekaaDoor
open Go Go.Proofs.YtakbedmeieeekaaDoor.Vc Go.Proofs Go.Proofs.YtakbedmeieeekaaDoor.S26 Go.ChangeShapes Go.WideShapes Go.ChangeAt Go.RowKit
set_option maxRecDepth 100000
set_option linter.unusedVariables false
namespace Cd.splitRestores
open Go.Proofs.YtakbedmeieeekaaDoor.Cd
theorem deep0 : Deep Tryd.prog (.cons .str (.cons (.int .i64) (.cons (.sl (.int .i64)) (.cons .str .nil)))) (.inl 24) := ⟨_, _, _, Tryd.underlying24, rfl, by kernel_rfl, by kernel_rfl, by kernel_rfl, Tryd.underlying9, ⟨by kernel_rfl, by kernel_rfl, Tryd.underlying3, ⟨by kernel_rfl, by kernel_rfl, ⟨3, Tryd.underlying22, by kernel_rfl, by decide, Tryd.underlying3⟩, ⟨by kernel_rfl, by kernel_rfl, Tryd.underlying9, trivial⟩⟩⟩⟩
theorem rec0 : Tryd.prog.readableRec 24 = true := by kernel_rfl
theorem lt0 : 24 < Tryd.prog.types.size := of_decide_eq_true (by kernel_rfl)
theorem deep1 : Deep Tryd.prog (.int .u16) (.inl 65) := Tryd.underlying65
theorem rec1 : Tryd.prog.readableRec 65 = true := by kernel_rfl
theorem lt1 : 65 < Tryd.prog.types.size := of_decide_eq_true (by kernel_rfl)
theorem deep2 : Deep Tryd.prog .u8 (.inl 5) := Tryd.underlying5
theorem rec2 : Tryd.prog.readableRec 5 = true := by kernel_rfl
theorem lt2 : 5 < Tryd.prog.types.size := of_decide_eq_true (by kernel_rfl)
theorem globs {W : World} (h : laidMetH Tryd.prog Rows.splitRestoresUptoRow.laid W) : ∀ g x, lk G6 g = some x → VRel (c0 W) [] W x (.pointer (some ⟨g, 0, none⟩)) := fun g x hx => by
  have hg : Tryd.prog.globalNamed "quietus/gf.high" = some 0 := by kernel_rfl
  have ht : Lib.TabIs Tryd.prog W "quietus/gf.high" .u8 [0, 29, 58, 39, 116, 105, 78, 83, 232, 245, 210, 207, 156, 129, 166, 187] := Lib.tabIs_of_head (rest := []) hg (by kernel_rfl) Tryd.underlying131 Tryd.underlying5 (by kernel_rfl) (by kernel_rfl) h
  have key : ∀ i, i < 16 → ([0, 29, 58, 39, 116, 105, 78, 83, 232, 245, 210, 207, 156, 129, 166, 187] : List Int).getD i 0 = ((hi.getD i 0).toNat : Int) := by decide
  have hc : ∀ i, i < hi.length → W.cell? ⟨0, i, none⟩ = some (.int .u8 ((hi.getD i 0).toNat : Int)) := fun i hi' => by
    have := ht.cell hg i hi'
    rwa [key i hi'] at this
  unfold G6 lk at hx
  cases hb : Nat.beq 0 g with
  | false => rw [hb] at hx; simp [lk] at hx
  | true =>
    rw [hb] at hx
    simp only [cond_true, Option.some.injEq] at hx
    have := beq_ok hb
    subst this hx
    exact tab_ok (spot_none (hc 0 (by decide))).2 hc rfl
theorem contract (H : Type) (enc : TypeId × Value → H) (W : World) (base : Nat) (args : Array Value) (ds gs : List (DataW H)) (before : List MemPlace)
    (hval : ∀ (j : Nat) t v, Tryd.f6.params[j]? = some t → args[j]? = some v → Value.okWide Tryd.prog W .any base t v)
    (hW : DataW.Whole enc Tryd.prog Tryd.f6.params.toList Rows.splitRestoresSpec.vars false W args.toList ds gs before) (hc : Rows.uptoSmall H (ds ++ gs) = true) (hL : laidMetH Tryd.prog Rows.splitRestoresUptoRow.laid W) :
    Calls Tryd.prog 6 args W fun e W' => ∃ v, e = .returned v ∧ Rows.splitRestoresSpec.post enc Tryd.prog Tryd.f6 false true false false W args v W' := by
  have hW' := hW
  obtain ⟨p, q, hA0, hV, rfl, hfz, hnd⟩ := hW
  have hA : DataW.TrodAll enc Tryd.prog W 0 (fun _ => true) true Tryd.f6.params.toList args.toList ds p := hA0
  rw [Tryd.params6] at hA hval
  obtain ⟨v0, vs0, d0, ds0, p0, q0, hargs, rfl, rfl, h0, r0⟩ := trodAll_cons hA
  obtain ⟨v1, vs1, d1, ds1, p1, q1, rfl, rfl, rfl, h1, r1⟩ := trodAll_cons r0
  obtain ⟨v2, vs2, d2, ds2, p2, q2, rfl, rfl, rfl, h2, r2⟩ := trodAll_cons r1
  obtain ⟨rfl, rfl, rfl⟩ := trodAll_nil r2
  obtain rfl : args = #[v0, v1, v2] := by cases args; simp_all
  obtain ⟨rfl, rfl⟩ := trodVars_none hV
  obtain ⟨x0, rel0, w0, wf0⟩ := arg_ok (bk := Rows.uptoBulk) bulk deep0 (hval 0 24 v0 rfl rfl) h0
  obtain ⟨x1, rel1, w1, wf1⟩ := arg_ok (bk := Rows.uptoBulk) bulk deep1 (hval 1 65 v1 rfl rfl) h1
  obtain ⟨x2, rel2, w2, wf2⟩ := arg_ok (bk := Rows.uptoBulk) bulk deep2 (hval 2 5 v2 rfl rfl) h2
  have hsum : Rows.uptoBulkAll [d0, d1, d2] ≤ 1048576 := by simpa [Rows.uptoSmall] using hc
  simp only [Rows.uptoBulkAll] at hsum
  have hlt : ∀ x ∈ p0 ++ p1 ++ p2, x.block < W.heap.size := fun x hx => by simpa using hW'.lt x (by simpa using hx)
  refine (law_ok (kSan.frz [1000002]) rfl Tryd.func6 (.cons _ _ _ _ rel0 (.cons _ _ _ _ rel1 (.cons _ _ _ _ rel2 (VRels.nil)))) (globs hL) (bLRes x0.1 x0.2.1 x0.2.2.1 x0.2.2.2.1 x1 x2 (mxT (N := 1048576) (t := x0) (by omega)).1 (mxT (N := 1048576) (t := x0) (by omega)).2.1 (mxT (N := 1048576) (t := x0) (by omega)).2.2 wf1.1 wf1.2)).mono fun e W' ⟨he, hb⟩ => ?_
  subst he
  exact ⟨_, rfl, post_same (pa := (p0 ++ (p1 ++ (p2 ++ [])))) (pv := []) hW' (fun _ _ _ => trodAll_cons_mk (shut_bool Tryd.underlying4 _) trodAll_mk0) (fun sp hsp => trodAll_cons_mk (WideElems.Trod_stays laidOut rec0 lt0 h0 (fun x hx => hb.same (hlt x (by simp [hx]))) (fun x hx => hsp x (by simp [hx]))) (trodAll_cons_mk (WideElems.Trod_stays laidOut rec1 lt1 h1 (fun x hx => hb.same (hlt x (by simp [hx]))) (fun x hx => hsp x (by simp [hx]))) (trodAll_cons_mk (WideElems.Trod_stays laidOut rec2 lt2 h2 (fun x hx => hb.same (hlt x (by simp [hx]))) (fun x hx => hsp x (by simp [hx]))) (trodAll_mk0)))) (fun _ _ => rfl) rfl hb (ok_one (by kernel_rfl) rfl (okWide_bool_mk Tryd.underlying4 _))⟩
noncomputable def laidWorld (os : Os) : World :=
  { World.holding Tryd.prog os ⟨#[], #[], []⟩ with heap := (World.holding Tryd.prog os ⟨#[], #[], []⟩).heap.modify 0 fun
      | .cells _ t frozen => .cells #[.int .u8 0, .int .u8 29, .int .u8 58, .int .u8 39, .int .u8 116, .int .u8 105, .int .u8 78, .int .u8 83, .int .u8 232, .int .u8 245, .int .u8 210, .int .u8 207, .int .u8 156, .int .u8 129, .int .u8 166, .int .u8 187] t frozen
      | o => o }
theorem laid_met (os : Os) : laidMet Tryd.prog Rows.splitRestoresUptoRow.laid ((laidWorld os).forCall (fun _ _ => 0) ⟨#[], #[.agg #[.string ⟨#[]⟩, .int .i64 0, .slice none 0 0, .string ⟨#[]⟩], .int .u16 0, .int .u8 0], []⟩).memory :=
  laidMet_of_run' 8 (by kernel_rfl) (by kernel_rfl)
theorem reads (os : Os) {H : Type} (enc : TypeId × Value → H) : ∃ places, DataW.whole enc Tryd.prog ((laidWorld os).forCall (fun _ _ => 0) ⟨#[], #[.agg #[.string ⟨#[]⟩, .int .i64 0, .slice none 0 0, .string ⟨#[]⟩], .int .u16 0, .int .u8 0], []⟩).memory Tryd.f6.params.toList Rows.splitRestoresSpec.vars false (#[.agg #[.string ⟨#[]⟩, .int .i64 0, .slice none 0 0, .string ⟨#[]⟩], .int .u16 0, .int .u8 0] : Array Value).toList 8 = some ([.agg [.lit (.string []), .lit (.int .i64 0), .nil, .lit (.string [])], .lit (.int .u16 0), .lit (.int .u8 0)], [], places) :=
  ⟨[], by kernel_rfl⟩
theorem liftedUpto (os : Os) (started : os.Started) (H : Type) (enc : TypeId × Value → H) (F : Stop.Interp) :
    ReturnsInHanded {} Tryd.checked os 6 .any ((Rows.OpenSpec.upto Rows.splitRestoresSpec).preRow enc Tryd.prog Tryd.f6 Rows.splitRestoresUptoRow.domain false Rows.splitRestoresUptoRow.laid) (((Rows.OpenSpec.upto Rows.splitRestoresSpec).at F).post enc Tryd.prog Tryd.f6 false true false false) := by
  obtain ⟨places, hx⟩ := reads os enc
  refine returnsInHanded_of_row (C := Tryd.checked) (s := Rows.OpenSpec.upto Rows.splitRestoresSpec) own started (by kernel_rfl) Tryd.func6
    (witness_row_at (enc := enc) (C := Tryd.checked) false (laidWorld os) #[.agg #[.string ⟨#[]⟩, .int .i64 0, .slice none 0 0, .string ⟨#[]⟩], .int .u16 0, .int .u8 0] rfl (by kernel_rfl) (by kernel_rfl) (by kernel_rfl)
      (OpenSpec.preRow_of_cond 8 hx (by kernel_rfl) (fun k hk => by cases hk; kernel_rfl) (by kernel_rfl) (laid_met os))) ?_
  intro W base args ds gs before hval hW _ hcond _ hL _ _
  exact contract H enc W base args ds gs before hval hW (hcond _ rfl) hL
theorem saidUpto : Rows.SplitRestoresUptoSaid :=
  OpenClaim.holds_of_cond 6 Tryd.f6 rfl rfl rfl rfl rfl rfl rfl ⟨rfl, rfl, rfl, rfl, rfl⟩ rfl rfl rfl rfl rfl (by kernel_rfl) Tryd.func6 (by kernel_rfl)
    (of_decide_eq_true (by kernel_rfl)) (by unfold Func.isWrapper; first | (rw [if_pos (by decide +kernel)]; kernel_rfl) | (rw [if_neg (by decide +kernel)]; exact ⟨rfl, rfl⟩))
    (fun os started H enc _ F => by rw [OpenClaim.pre_eq_preRow]; exact liftedUpto os started H enc F)
theorem plain (f : FuncId) (fn : Func) (hf : Tryd.pinned.checked.prog.funcNamed "quietus/quietuslaw26.SplitRestores" = some f) (hfn : Tryd.pinned.checked.prog.funcs[f]? = some fn) :
    false = Tryd.pinned.checked.prog.looks [] ∧ ∀ (j : Nat) t, fn.params[j]? = some t → Tryd.pinned.checked.prog.wantsStandIn t = false := by
  obtain rfl : f = 6 := Option.some.inj ((show Tryd.prog.funcNamed "quietus/quietuslaw26.SplitRestores" = some 6 by kernel_rfl).symm.trans hf) |>.symm
  obtain rfl : fn = Tryd.f6 := (Option.some.inj (Tryd.func6.symm.trans hfn)).symm
  refine ⟨by kernel_rfl, fun j t ht => ?_⟩
  rw [Tryd.params6] at ht
  have hm := Array.mem_of_getElem? ht
  simp only [List.mem_toArray, List.mem_cons, List.not_mem_nil, or_false] at hm
  rcases hm with rfl | rfl | rfl
  · exact (show Tryd.prog.wantsStandIn 24 = false by kernel_rfl)
  · exact (show Tryd.prog.wantsStandIn 65 = false by kernel_rfl)
  · exact (show Tryd.prog.wantsStandIn 5 = false by kernel_rfl)
theorem cardUpto : Rows.SplitRestoresUptoCardSaid :=
  Claim7.holds_tied_plain_at .later [] _ _ _ _ saidUpto (fun _ h => by cases h) (by kernel_rfl) (fun _ h => by cases h) splitRestoresUpto_row_tie rfl ⟨rfl, rfl⟩ (by kernel_rfl) rfl plain (by kernel_rfl)
end Cd.splitRestores
theorem splitRestores_holds : Rows.SplitRestoresUptoCardSaid := Cd.splitRestores.cardUpto
end Go.Proofs.YtakbedmeieeekaaDoor

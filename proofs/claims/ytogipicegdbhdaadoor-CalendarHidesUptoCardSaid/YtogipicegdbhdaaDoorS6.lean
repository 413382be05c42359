/- Texts of this claim: S41.CR1, S41.CL1, S41.CUa, S41.CUb, S41.M1L, S41.M2L, S41.CUz, S41.Cd0. -/
import Derived.Test.YtogipicegdbhdaaDoorS5
import Derived.Test.YtogipicegdbhdaaDoorVc10
import Derived.Test.YtogipicegdbhdaaDoorS4
import Derived.Test.YtogipicegdbhdaaDoorS3
import Derived.Test.YtogipicegdbhdaaDoorCards
import Derived.Test.YtogipicegdbhdaaDoorTie
import Derived.WalkKit
import Derived.ProofKit
import Derived.OpenShut
import Derived.Deep.DeepHandedRow
import Derived.Lib.LaidTab
set_option linter.unusedVariables false
set_option linter.unusedSimpArgs false
namespace Go.Proofs.YtogipicegdbhdaaDoor.S41c
open Go Go.Proofs.YtogipicegdbhdaaDoor.Vc Go.Proofs
set_option maxRecDepth 100000
set_option linter.unusedVariables false
open Go.Proofs.YtogipicegdbhdaaDoor.S41
def sRCnt : List V → Option (Prop × V × List Blk)
 | [.agg [.int .i64 b, .int .i64 l, .int .i64 d, .int .i64 m, .sl false (.int .i64) hs]] => some (0 ≤ b ∧ b ≤ l ∧ l ≤ 1000000 ∧ 1 ≤ d, .int .i64 (cntL b l d), [])
 | _ => none
set_option maxHeartbeats 1000000 in
theorem bRCnt (b : Int) (l : Int) (d : Int) (m : Int) (hs : List Int) (hp0 : 0 ≤ b) (hp1 : b ≤ l) (hp2 : l ≤ 1000000) (hp3 : 1 ≤ d) : bodyP (En CLst tys G6 QAt) Tryd.f55 [.k] [.agg [.int .i64 b, .int .i64 l, .int .i64 d, .int .i64 m, .sl false (.int .i64) hs]] (.int .i64 (cntL b l d)) [] := by
 have hd := Int.ediv_nonneg (a := l - b) (b := d) (by omega) (by omega)
 have hd2 := Int.ediv_le_self (a := l - b) d (by omega)
 refine ⟨(r64 (l - b)), .inl ⟨⟨by show (0 : Int) ≤ (l - b); omega, by show (0 : Int) < d; omega⟩, ?_⟩⟩
 refine ⟨(r64 (((l - b) / d) + 1)), ?_⟩
 exact ⟨rfl, rfl, rfl, rfl⟩
def CRCnt : List (Nat × Con) := (55, pureC [.v (.cons (.int .i64) (.cons (.int .i64) (.cons (.int .i64) (.cons (.int .i64) (.cons (.sl (.int .i64)) .nil)))))] sRCnt) :: CLst
theorem kRCnt : Known Tryd.prog (En CRCnt tys G6 QAt) := kLst.add Tryd.func55 Tryd.call55 [.k] fun ds p v bs h hp => by
 unfold sRCnt at h
 split at h <;> simp only [Option.some.injEq, Prod.mk.injEq, reduceCtorEq] at h
 obtain ⟨rfl, rfl, rfl⟩ := h
 exact bRCnt _ _ _ _ _ hp.1 hp.2.1 hp.2.2.1 hp.2.2.2
def sRChk : List V → Option (Prop × V × List Blk)
 | [.agg [.int .i64 b, .int .i64 l, .int .i64 d, .int .i64 m, .sl false (.int .i64) hs]] => some (hs.length ≤ 2000000, .int .i64 (chkL b l d m hs), [])
 | _ => none
set_option maxHeartbeats 1000000 in
theorem bRChk (b : Int) (l : Int) (d : Int) (m : Int) (hs : List Int) (hp0 : hs.length ≤ 2000000) : bodyP (En CRCnt tys G6 QAt) Tryd.f25 [.k] [.agg [.int .i64 b, .int .i64 l, .int .i64 d, .int .i64 m, .sl false (.int .i64) hs]] (.int .i64 (chkL b l d m hs)) [] := by
 refine ⟨fun h0 => ?_, fun h0 => ?_⟩
 ·replace h0 : ¬ (b < 0) := h0
  refine ⟨fun h1 => ?_, fun h1 => ?_⟩
  ·replace h1 : ¬ (1000000 < b) := h1
   refine ⟨fun h2 => ?_, fun h2 => ?_⟩
   ·replace h2 : ¬ (l < b) := h2
    refine ⟨fun h3 => ?_, fun h3 => ?_⟩
    ·replace h3 : ¬ (1000000 < l) := h3
     refine ⟨fun h4 => ?_, fun h4 => ?_⟩
     ·replace h4 : ¬ (d < 1) := h4
      refine ⟨fun h5 => ?_, fun h5 => ?_⟩
      ·replace h5 : 1000000 < d := h5
       refine ⟨rfl, rfl, ?_, rfl⟩
       unfold chkL
       repeat' split
       all_goals first | rfl | omega | (exfalso; simp_all; done)
      ·replace h5 : ¬ (1000000 < d) := h5
       refine ⟨rfl, rfl, rfl, rfl, ⟨by show 0 ≤ b; first | omega | assumption, by show b ≤ l; first | omega | assumption, by show l ≤ 1000000; first | omega | assumption, by show 1 ≤ d; first | omega | assumption⟩, fun h6 => ?_, fun h6 => ?_⟩
       ·replace h6 : 500 < (cntL b l d) := h6
        refine ⟨rfl, rfl, ?_, rfl⟩
        unfold chkL
        repeat' split
        all_goals first | rfl | omega | (exfalso; simp_all; done)
       ·replace h6 : ¬ (500 < (cntL b l d)) := h6
        refine ⟨1, [(1, .k), (4, .k)], fun nM vs H => ∃ (k : Nat), k ≤ hs.length ∧ hsF (prv hs k) (hs.drop k) = hsF (-1) hs ∧ nM = hs.length - k ∧ vs = [.ptr 0 1 0 0, .int .i64 (k : Int)] ∧ H = [.cells [.int .i64 b, .int .i64 l, .int .i64 d, .int .i64 m, .sl false (.int .i64) hs]], ⟨rfl, hs.length, 0, by omega, rfl, by omega, rfl, rfl⟩, ?_⟩
        rintro nM vs H ⟨k, hc1_0, hc1_1, rfl, rfl, rfl⟩
        refine ⟨fun h7 => ?_, fun h7 => ?_⟩
        ·replace h7 : (k : Int) < (hs.length : Int) := h7
         have hkl : k < hs.length := by omega
         have hk1 : ((k : Int) - 1).toNat = k - 1 := by omega
         refine ⟨by kernel_rfl, (i0 (k : Int) (hs.length : Int)), fun h8 => ?_, fun h8 => ?_⟩
         ·replace h8 : ¬ ((hs.getD k 0) < 0) := h8
          refine ⟨fun h9 => ?_, fun h9 => absurd h9 (show ¬ ((hs.getD k 0) < 0) by first | omega | assumption | simp_all)⟩
          refine ⟨fun h10 => ?_, fun h10 => absurd h10 (show ¬ ((hs.getD k 0) < 0) by first | omega | assumption | simp_all)⟩
          refine ⟨fun h11 => ?_, fun h11 => absurd h11 (show ¬ ((hs.getD k 0) < 0) by first | omega | assumption | simp_all)⟩
          refine ⟨(i0 (k : Int) (hs.length : Int)), fun h12 => ?_, fun h12 => absurd h12 (show ¬ ((hs.getD k 0) < 0) by first | omega | assumption | simp_all)⟩
          refine ⟨fun h13 => ?_, fun h13 => absurd h13 (show ¬ ((hs.getD k 0) < 0) by first | omega | assumption | simp_all)⟩
          refine ⟨fun h14 => absurd h14 (show ¬ ((hs.getD k 0) < 0) by first | omega | assumption | simp_all), fun h14 => ?_⟩
          refine ⟨fun h15 => ?_, fun h15 => ?_⟩
          ·replace h15 : ¬ (11 < (hs.getD k 0)) := h15
           refine ⟨fun h16 => ?_, fun h16 => absurd h16 (show ¬ (11 < (hs.getD k 0)) by first | omega | assumption | simp_all)⟩
           refine ⟨fun h17 => ?_, fun h17 => absurd h17 (show ¬ (11 < (hs.getD k 0)) by first | omega | assumption | simp_all)⟩
           refine ⟨fun h18 => ?_, fun h18 => ?_⟩
           ·replace h18 : 0 < (k : Int) := h18
            refine ⟨fun h19 => ?_, fun h19 => absurd (show 0 < (k : Int) by first | omega | assumption | simp_all) h19⟩
            refine ⟨fun h20 => ?_, fun h20 => absurd (show 0 < (k : Int) by first | omega | assumption | simp_all) h20⟩
            refine ⟨fun h21 => ?_, fun h21 => absurd (show 0 < (k : Int) by first | omega | assumption | simp_all) h21⟩
            refine ⟨(i0 (k : Int) (hs.length : Int)), fun h22 => ?_, fun h22 => absurd (show 0 < (k : Int) by first | omega | assumption | simp_all) h22⟩
            refine ⟨fun h23 => ?_, fun h23 => absurd (show 0 < (k : Int) by first | omega | assumption | simp_all) h23⟩
            refine ⟨fun h24 => ?_, fun h24 => absurd (show 0 < (k : Int) by first | omega | assumption | simp_all) h24⟩
            refine ⟨fun h25 => ?_, fun h25 => absurd (show 0 < (k : Int) by first | omega | assumption | simp_all) h25⟩
            refine ⟨fun h26 => ?_, fun h26 => absurd (show 0 < (k : Int) by first | omega | assumption | simp_all) h26⟩
            refine ⟨(r64 ((k : Int) - 1)), fun h27 => ?_, fun h27 => absurd (show 0 < (k : Int) by first | omega | assumption | simp_all) h27⟩
            refine ⟨(i0 ((k : Int) - 1) (hs.length : Int)), fun h28 => ?_, fun h28 => absurd (show 0 < (k : Int) by first | omega | assumption | simp_all) h28⟩
            refine ⟨fun h29 => ?_, fun h29 => absurd (show 0 < (k : Int) by first | omega | assumption | simp_all) h29⟩
            refine ⟨fun h30 => ?_, fun h30 => absurd h30 (show ¬ (11 < (hs.getD k 0)) by first | omega | assumption | simp_all)⟩
            refine ⟨fun h31 => ?_, fun h31 => absurd (show 0 < (k : Int) by first | omega | assumption | simp_all) h31⟩
            refine ⟨fun h32 => absurd h32 (show ¬ (11 < (hs.getD k 0)) by first | omega | assumption | simp_all), fun h32 => ?_⟩
            refine ⟨fun h33 => ?_, fun h33 => ?_⟩
            ·replace h33 : (hs.getD k 0) ≤ (hs.getD (((k : Int) - 1).toNat) 0) := h33
             rw [hk1] at h33
             have e := hs_bad hkl hc1_1 (by rw [prv_pos hs (by omega)]; omega)
             refine ⟨rfl, rfl, ?_, rfl⟩
             unfold chkL
             repeat' split
             all_goals first | rfl | omega | (exfalso; simp_all; done)
            ·replace h33 : ¬ ((hs.getD k 0) ≤ (hs.getD (((k : Int) - 1).toNat) 0)) := h33
             rw [hk1] at h33
             refine ⟨(r64 ((k : Int) + 1)), ?_⟩
             exact ⟨rfl, hs.length - (k + 1), by omega, k + 1, by omega, hs_next hkl hc1_1 (by first | (rw [prv_pos hs (by omega)]; omega) | (rw [prv_zero hs (by omega)]; omega)), rfl, rfl, rfl⟩
           ·replace h18 : ¬ (0 < (k : Int)) := h18
            refine ⟨fun h34 => absurd h34 (show ¬ (0 < (k : Int)) by first | omega | assumption | simp_all), fun h34 => ?_⟩
            refine ⟨fun h35 => absurd h35 (show ¬ (0 < (k : Int)) by first | omega | assumption | simp_all), fun h35 => ?_⟩
            refine ⟨fun h36 => absurd h36 (show ¬ (0 < (k : Int)) by first | omega | assumption | simp_all), fun h36 => ?_⟩
            refine ⟨fun h37 => absurd h37 (show ¬ (0 < (k : Int)) by first | omega | assumption | simp_all), fun h37 => ?_⟩
            refine ⟨fun h38 => absurd h38 (show ¬ (0 < (k : Int)) by first | omega | assumption | simp_all), fun h38 => ?_⟩
            refine ⟨fun h39 => absurd h39 (show ¬ (0 < (k : Int)) by first | omega | assumption | simp_all), fun h39 => ?_⟩
            refine ⟨fun h40 => absurd h40 (show ¬ (0 < (k : Int)) by first | omega | assumption | simp_all), fun h40 => ?_⟩
            refine ⟨fun h41 => absurd h41 (show ¬ (0 < (k : Int)) by first | omega | assumption | simp_all), fun h41 => ?_⟩
            refine ⟨fun h42 => absurd h42 (show ¬ (0 < (k : Int)) by first | omega | assumption | simp_all), fun h42 => ?_⟩
            refine ⟨fun h43 => absurd h43 (show ¬ (0 < (k : Int)) by first | omega | assumption | simp_all), fun h43 => ?_⟩
            refine ⟨fun h44 => absurd h44 (show ¬ (0 < (k : Int)) by first | omega | assumption | simp_all), fun h44 => ?_⟩
            refine ⟨fun h45 => ?_, fun h45 => absurd h45 (show ¬ (11 < (hs.getD k 0)) by first | omega | assumption | simp_all)⟩
            refine ⟨fun h46 => absurd h46 (show ¬ (0 < (k : Int)) by first | omega | assumption | simp_all), fun h46 => ?_⟩
            refine ⟨fun h47 => absurd h47 (show ¬ (11 < (hs.getD k 0)) by first | omega | assumption | simp_all), fun h47 => ?_⟩
            refine ⟨(r64 ((k : Int) + 1)), ?_⟩
            exact ⟨rfl, hs.length - (k + 1), by omega, k + 1, by omega, hs_next hkl hc1_1 (by first | (rw [prv_pos hs (by omega)]; omega) | (rw [prv_zero hs (by omega)]; omega)), rfl, rfl, rfl⟩
          ·replace h15 : 11 < (hs.getD k 0) := h15
           refine ⟨fun h48 => absurd (show 11 < (hs.getD k 0) by first | omega | assumption | simp_all) h48, fun h48 => ?_⟩
           refine ⟨fun h49 => absurd (show 11 < (hs.getD k 0) by first | omega | assumption | simp_all) h49, fun h49 => ?_⟩
           refine ⟨fun h50 => absurd (show 11 < (hs.getD k 0) by first | omega | assumption | simp_all) h50, fun h50 => ?_⟩
           refine ⟨fun h51 => ?_, fun h51 => absurd (show 11 < (hs.getD k 0) by first | omega | assumption | simp_all) h51⟩
           have e := hs_bad hkl hc1_1 (by omega)
           refine ⟨rfl, rfl, ?_, rfl⟩
           unfold chkL
           repeat' split
           all_goals first | rfl | omega | (exfalso; simp_all; done)
         ·replace h8 : (hs.getD k 0) < 0 := h8
          refine ⟨fun h52 => absurd (show (hs.getD k 0) < 0 by first | omega | assumption | simp_all) h52, fun h52 => ?_⟩
          refine ⟨fun h53 => absurd (show (hs.getD k 0) < 0 by first | omega | assumption | simp_all) h53, fun h53 => ?_⟩
          refine ⟨fun h54 => absurd (show (hs.getD k 0) < 0 by first | omega | assumption | simp_all) h54, fun h54 => ?_⟩
          refine ⟨fun h55 => absurd (show (hs.getD k 0) < 0 by first | omega | assumption | simp_all) h55, fun h55 => ?_⟩
          refine ⟨fun h56 => absurd (show (hs.getD k 0) < 0 by first | omega | assumption | simp_all) h56, fun h56 => ?_⟩
          refine ⟨fun h57 => ?_, fun h57 => absurd (show (hs.getD k 0) < 0 by first | omega | assumption | simp_all) h57⟩
          have e := hs_bad hkl hc1_1 (by omega)
          refine ⟨rfl, rfl, ?_, rfl⟩
          unfold chkL
          repeat' split
          all_goals first | rfl | omega | (exfalso; simp_all; done)
        ·replace h7 : ¬ ((k : Int) < (hs.length : Int)) := h7
         have e := hs_end (by omega) hc1_1
         refine ⟨fun h58 => ?_, fun h58 => ?_⟩
         ·replace h58 : ¬ (m < 1) := h58
          refine ⟨fun h59 => ?_, fun h59 => ?_⟩
          ·replace h59 : (hs.length : Int) < m := h59
           refine ⟨rfl, rfl, ?_, rfl⟩
           unfold chkL
           repeat' split
           all_goals first | rfl | omega | (exfalso; simp_all; done)
          ·replace h59 : ¬ ((hs.length : Int) < m) := h59
           refine ⟨rfl, rfl, ?_, rfl⟩
           unfold chkL
           repeat' split
           all_goals first | rfl | omega | (exfalso; simp_all; done)
         ·replace h58 : m < 1 := h58
          refine ⟨rfl, rfl, ?_, rfl⟩
          unfold chkL
          repeat' split
          all_goals first | rfl | omega | (exfalso; simp_all; done)
     ·replace h4 : d < 1 := h4
      refine ⟨rfl, rfl, ?_, rfl⟩
      unfold chkL
      repeat' split
      all_goals first | rfl | omega | (exfalso; simp_all; done)
    ·replace h3 : 1000000 < l := h3
     refine ⟨rfl, rfl, ?_, rfl⟩
     unfold chkL
     repeat' split
     all_goals first | rfl | omega | (exfalso; simp_all; done)
   ·replace h2 : l < b := h2
    refine ⟨rfl, rfl, ?_, rfl⟩
    unfold chkL
    repeat' split
    all_goals first | rfl | omega | (exfalso; simp_all; done)
  ·replace h1 : 1000000 < b := h1
   refine ⟨rfl, rfl, ?_, rfl⟩
   unfold chkL
   repeat' split
   all_goals first | rfl | omega | (exfalso; simp_all; done)
 ·replace h0 : b < 0 := h0
  refine ⟨rfl, rfl, ?_, rfl⟩
  unfold chkL
  repeat' split
  all_goals first | rfl | omega | (exfalso; simp_all; done)
def CRChk : List (Nat × Con) := (25, pureC [.v (.cons (.int .i64) (.cons (.int .i64) (.cons (.int .i64) (.cons (.int .i64) (.cons (.sl (.int .i64)) .nil)))))] sRChk) :: CRCnt
theorem kRChk : Known Tryd.prog (En CRChk tys G6 QAt) := kRCnt.add Tryd.func25 Tryd.call25 [.k] fun ds p v bs h hp => by
 unfold sRChk at h
 split at h <;> simp only [Option.some.injEq, Prod.mk.injEq, reduceCtorEq] at h
 obtain ⟨rfl, rfl, rfl⟩ := h
 exact bRChk _ _ _ _ _ hp
def sRSam : List V → Option (Prop × V × List Blk)
 | [.sl false (.int .i64) s, .sl false (.int .i64) t] => some (s.length ≤ 2000000 ∧ t.length ≤ 2000000, .b (s = t), [])
 | _ => none
set_option maxHeartbeats 1000000 in
theorem bRSam (s : List Int) (t : List Int) (hp0 : s.length ≤ 2000000) (hp1 : t.length ≤ 2000000) : bodyP (En CRChk tys G6 QAt) Tryd.f65 [.k] [.sl false (.int .i64) s, .sl false (.int .i64) t] (.b (s = t)) [] := by
 refine ⟨fun h0 => ?_, fun h0 => ?_⟩
 ·replace h0 : (s.length : Int) ≠ (t.length : Int) := h0
  exact ⟨rfl, rfl, congrArg V.b (propext ⟨fun h => Bool.noConfusion h, fun e => absurd (by rw [e]) h0⟩), rfl⟩
 ·replace h0 : ¬ ((s.length : Int) ≠ (t.length : Int)) := h0
  refine ⟨0, [(0, .k), (1, .k), (5, .k)], fun nM vs H => ∃ (k : Nat), k ≤ s.length ∧ s.length = t.length ∧ (∀ i, i < k → s.getD i 0 = t.getD i 0) ∧ nM = s.length - k ∧ vs = [.sl false (.int .i64) s, .sl false (.int .i64) t, .int .i64 (k : Int)] ∧ H = [], ⟨rfl, s.length, 0, by omega, by omega, by intro i hi; omega, by omega, rfl, rfl⟩, ?_⟩
  rintro nM vs H ⟨k, hc1_0, hc1_1, hc1_2, rfl, rfl, rfl⟩
  refine ⟨fun h1 => ?_, fun h1 => ?_⟩
  ·replace h1 : (k : Int) < (s.length : Int) := h1
   refine ⟨by kernel_rfl, (i0 (k : Int) (s.length : Int)), (i0 (k : Int) (t.length : Int)), fun h2 => ?_, fun h2 => ?_⟩
   ·replace h2 : (s.getD k 0) ≠ (t.getD k 0) := h2
    exact ⟨rfl, rfl, congrArg V.b (propext ⟨fun h => Bool.noConfusion h, fun e => absurd (by rw [e]) h2⟩), rfl⟩
   ·replace h2 : ¬ ((s.getD k 0) ≠ (t.getD k 0)) := h2
    refine ⟨(r64 ((k : Int) + 1)), ?_⟩
    exact ⟨rfl, s.length - (k + 1), by omega, k + 1, by omega, by omega, fun i hi => if h : i < k then hc1_2 i h else by (obtain rfl : i = k := by omega); exact Classical.not_not.1 h2, rfl, rfl, rfl⟩
  ·replace h1 : ¬ ((k : Int) < (s.length : Int)) := h1
   exact ⟨rfl, rfl, congrArg V.b (propext ⟨fun _ => list_eq 0 hc1_1 (fun i hi => hc1_2 i (by omega)), fun _ => rfl⟩), rfl⟩
def CRSam : List (Nat × Con) := (65, pureC [.v (.sl (.int .i64)), .v (.sl (.int .i64))] sRSam) :: CRChk
theorem kRSam : Known Tryd.prog (En CRSam tys G6 QAt) := kRChk.add Tryd.func65 Tryd.call65 [.k] fun ds p v bs h hp => by
 unfold sRSam at h
 split at h <;> simp only [Option.some.injEq, Prod.mk.injEq, reduceCtorEq] at h
 obtain ⟨rfl, rfl, rfl⟩ := h
 exact bRSam _ _ hp.1 hp.2
def sRSAg : List V → Option (Prop × V × List Blk)
 | [.agg [.int .i64 M1, .int .i64 Y1, .b L1, .sl false (.int .i64) W1, .sl false (.int .i64) T1, .sl false (.int .i64) R1], .agg [.int .i64 M2, .int .i64 Y2, .b L2, .sl false (.int .i64) W2, .sl false (.int .i64) T2, .sl false (.int .i64) R2]] => some (W1.length ≤ 2000000 ∧ T1.length ≤ 2000000 ∧ R1.length ≤ 2000000 ∧ W2.length ≤ 2000000 ∧ T2.length ≤ 2000000 ∧ R2.length ≤ 2000000, .b (W1 = W2 ∧ T1 = T2 ∧ R1 = R2 ∧ M1 = M2 ∧ Y1 = Y2 ∧ (L1 ↔ L2)), [])
 | _ => none
set_option maxHeartbeats 2000000 in
theorem bRSAg (M1 : Int) (Y1 : Int) (L1 : Prop) (W1 : List Int) (T1 : List Int) (R1 : List Int) (M2 : Int) (Y2 : Int) (L2 : Prop) (W2 : List Int) (T2 : List Int) (R2 : List Int) (hp0 : W1.length ≤ 2000000) (hp1 : T1.length ≤ 2000000) (hp2 : R1.length ≤ 2000000) (hp3 : W2.length ≤ 2000000) (hp4 : T2.length ≤ 2000000) (hp5 : R2.length ≤ 2000000) : bodyP (En CRSam tys G6 QAt) Tryd.f64 [.k] [.agg [.int .i64 M1, .int .i64 Y1, .b L1, .sl false (.int .i64) W1, .sl false (.int .i64) T1, .sl false (.int .i64) R1], .agg [.int .i64 M2, .int .i64 Y2, .b L2, .sl false (.int .i64) W2, .sl false (.int .i64) T2, .sl false (.int .i64) R2]] (.b (W1 = W2 ∧ T1 = T2 ∧ R1 = R2 ∧ M1 = M2 ∧ Y1 = Y2 ∧ (L1 ↔ L2))) [] := by
 refine ⟨⟨by show W1.length ≤ 2000000; first | omega | assumption, by show W2.length ≤ 2000000; first | omega | assumption⟩, ⟨by show T1.length ≤ 2000000; first | omega | assumption, by show T2.length ≤ 2000000; first | omega | assumption⟩, ⟨by show R1.length ≤ 2000000; first | omega | assumption, by show R2.length ≤ 2000000; first | omega | assumption⟩, fun h0 => ?_, fun h0 => ?_⟩
 ·replace h0 : W1 = W2 := h0
  refine ⟨fun h1 => ?_, fun h1 => ?_⟩
  ·replace h1 : T1 = T2 := h1
   refine ⟨fun h2 => ?_, fun h2 => ?_⟩
   ·replace h2 : R1 = R2 := h2
    refine ⟨fun h3 => ?_, fun h3 => ?_⟩
    ·replace h3 : M1 = M2 := h3
     refine ⟨fun h4 => ?_, fun h4 => ?_⟩
     ·replace h4 : Y1 = Y2 := h4
      exact ⟨rfl, rfl, congrArg V.b (propext (by constructor <;> intro h <;> simp_all)), rfl⟩
     ·replace h4 : ¬ (Y1 = Y2) := h4
      exact ⟨rfl, rfl, congrArg V.b (propext (by constructor <;> intro h <;> simp_all)), rfl⟩
    ·replace h3 : ¬ (M1 = M2) := h3
     exact ⟨rfl, rfl, congrArg V.b (propext (by constructor <;> intro h <;> simp_all)), rfl⟩
   ·replace h2 : ¬ (R1 = R2) := h2
    exact ⟨rfl, rfl, congrArg V.b (propext (by constructor <;> intro h <;> simp_all)), rfl⟩
  ·replace h1 : ¬ (T1 = T2) := h1
   exact ⟨rfl, rfl, congrArg V.b (propext (by constructor <;> intro h <;> simp_all)), rfl⟩
 ·replace h0 : ¬ (W1 = W2) := h0
  exact ⟨rfl, rfl, congrArg V.b (propext (by constructor <;> intro h <;> simp_all)), rfl⟩
def CRSAg : List (Nat × Con) := (64, pureC [.v (.cons (.int .i64) (.cons (.int .i64) (.cons .bool (.cons (.sl (.int .i64)) (.cons (.sl (.int .i64)) (.cons (.sl (.int .i64)) .nil)))))), .v (.cons (.int .i64) (.cons (.int .i64) (.cons .bool (.cons (.sl (.int .i64)) (.cons (.sl (.int .i64)) (.cons (.sl (.int .i64)) .nil))))))] sRSAg) :: CRSam
theorem kRSAg : Known Tryd.prog (En CRSAg tys G6 QAt) := kRSam.add Tryd.func64 Tryd.call64 [.k] fun ds p v bs h hp => by
 unfold sRSAg at h
 split at h <;> simp only [Option.some.injEq, Prod.mk.injEq, reduceCtorEq] at h
 obtain ⟨rfl, rfl, rfl⟩ := h
 exact bRSAg _ _ _ _ _ _ _ _ _ _ _ _ hp.1 hp.2.1 hp.2.2.1 hp.2.2.2.1 hp.2.2.2.2.1 hp.2.2.2.2.2
def sRFew : List V → Option (Prop × V × List Blk)
 | [.agg [.int .i64 b, .int .i64 l, .int .i64 d, .int .i64 m, .sl false (.int .i64) hs], .int .i64 x] => some (hs.length ≤ 2000000, .b (fewP b l d m hs x), [])
 | _ => none
set_option maxHeartbeats 1000000 in
theorem bRFew (b : Int) (l : Int) (d : Int) (m : Int) (hs : List Int) (x : Int) (hp0 : hs.length ≤ 2000000) : bodyP (En CRSAg tys G6 QAt) Tryd.f26 [.k] [.agg [.int .i64 b, .int .i64 l, .int .i64 d, .int .i64 m, .sl false (.int .i64) hs], .int .i64 x] (.b (fewP b l d m hs x)) [] := by
 refine ⟨fun h0 => ?_, fun h0 => ?_⟩
 ·replace h0 : 30 < (hs.length : Int) := h0
  exact ⟨rfl, rfl, congrArg V.b (propext ⟨fun h => Bool.noConfusion h, fun g => absurd g.1 (by omega)⟩), rfl⟩
 ·replace h0 : ¬ (30 < (hs.length : Int)) := h0
  refine ⟨rfl, rfl, rfl, rfl, by show hs.length ≤ 2000000; first | omega | assumption, fun h1 => ?_, fun h1 => ?_⟩
  ·replace h1 : (chkL b l d m hs) ≠ 0 := h1
   exact ⟨rfl, rfl, congrArg V.b (propext ⟨fun _ => ⟨by omega, fun e => absurd e h1⟩, fun _ => rfl⟩), rfl⟩
  ·replace h1 : ¬ ((chkL b l d m hs) ≠ 0) := h1
   have hc := chk0 (Classical.not_not.1 h1)
   obtain ⟨q1, q2, q3, q4, q5, q6, q7, q8, q9, q10, q11⟩ := id hc
   refine ⟨rfl, rfl, rfl, rfl, ⟨by show 0 ≤ b; first | omega | assumption, by show b ≤ l; first | omega | assumption, by show l ≤ 1000000; first | omega | assumption, by show 1 ≤ d; first | omega | assumption⟩, ?_⟩
   exact ⟨rfl, rfl, congrArg V.b (propext ⟨fun g => ⟨by omega, fun _ => g⟩, fun g => g.2 (Classical.not_not.1 h1)⟩), rfl⟩
def CRFew : List (Nat × Con) := (26, pureC [.v (.cons (.int .i64) (.cons (.int .i64) (.cons (.int .i64) (.cons (.int .i64) (.cons (.sl (.int .i64)) .nil))))), .v (.int .i64)] sRFew) :: CRSAg
theorem kRFew : Known Tryd.prog (En CRFew tys G6 QAt) := kRSAg.add Tryd.func26 Tryd.call26 [.k] fun ds p v bs h hp => by
 unfold sRFew at h
 split at h <;> simp only [Option.some.injEq, Prod.mk.injEq, reduceCtorEq] at h
 obtain ⟨rfl, rfl, rfl⟩ := h
 exact bRFew _ _ _ _ _ _ hp
end Go.Proofs.YtogipicegdbhdaaDoor.S41c

namespace Go.Proofs.YtogipicegdbhdaaDoor.S41c
open Go Go.Proofs.YtogipicegdbhdaaDoor.Vc Go.Proofs
set_option maxRecDepth 100000
set_option linter.unusedVariables false
open Go.Proofs.YtogipicegdbhdaaDoor.S41
instance (b l d m : Int) (hs held : List Int) (t : Int) : Decidable (lokL b l d m hs held t) := by unfold lokL; infer_instance
instance (b l d m : Int) (hs : List Int) (n : Int) : Decidable (fewP b l d m hs n) := by unfold fewP; infer_instance
def sExa : List V → Option (Prop × V × List Blk)
 | [] => some (True, .agg [.int .i64 10, .int .i64 24, .int .i64 5, .int .i64 2, .own (.int .i64) 0], [.row true (.int .i64) ([0, 1, 2] : List Int)])
 | _ => none
set_option maxHeartbeats 1000000 in
theorem bExa   : bodyP (En CRFew tys G6 QAt) Tryd.f56 [.k, .k, .k, .k, .o (.int .i64)] [] (.agg [.int .i64 10, .int .i64 24, .int .i64 5, .int .i64 2, .own (.int .i64) 0]) [.row true (.int .i64) ([0, 1, 2] : List Int)] := by
 refine ⟨rfl, rfl, rfl, ⟨rfl, rfl, rfl, Nat.le_of_ble_eq_true rfl⟩, ?_⟩
 exact ⟨rfl, rfl, rfl, rfl⟩
def CExa : List (Nat × Con) := (56, pureC [] sExa) :: CRFew
theorem kExa : Known Tryd.prog (En CExa tys G6 QAt) := kRFew.add Tryd.func56 Tryd.call56 [.k, .k, .k, .k, .o (.int .i64)] fun ds p v bs h hp => by
 unfold sExa at h
 split at h <;> simp only [Option.some.injEq, Prod.mk.injEq, reduceCtorEq] at h
 obtain ⟨rfl, rfl, rfl⟩ := h
 exact bExa 
def sSan : List V → Option (Prop × V × List Blk)
 | [] => some (True, .b True, [])
 | _ => none
set_option maxHeartbeats 8000000 in
theorem bSan   : bodyP (En CExa tys G6 QAt) Tryd.f27 [.k] [] (.b True) [] := by
 refine ⟨trivial, ⟨rfl, rfl, rfl, Nat.le_of_ble_eq_true rfl⟩, rfl, rfl, rfl, rfl, rfl, by decide +kernel, rfl, rfl, rfl, rfl, rfl, by decide +kernel, rfl, rfl, rfl, rfl, rfl, rfl, rfl, rfl, ⟨by decide +kernel, by decide +kernel⟩, ⟨rfl, rfl, rfl, Nat.le_of_ble_eq_true rfl⟩, rfl, rfl, rfl, rfl, rfl, rfl, ⟨by decide +kernel, by decide +kernel⟩, ⟨rfl, rfl, rfl, Nat.le_of_ble_eq_true rfl⟩, rfl, rfl, rfl, rfl, rfl, rfl, rfl, rfl, rfl, ⟨by decide +kernel, by decide +kernel⟩, rfl, rfl, rfl, rfl, rfl, rfl, rfl, rfl, rfl, ⟨by decide +kernel, by decide +kernel⟩, rfl, rfl, rfl, rfl, rfl, ⟨by decide +kernel, by decide +kernel⟩, rfl, rfl, rfl, rfl, rfl, ⟨by decide +kernel, by decide +kernel⟩, rfl, rfl, rfl, rfl, rfl, rfl, rfl, rfl, rfl, rfl, rfl, rfl, rfl, ⟨by decide +kernel, by decide +kernel⟩, rfl, rfl, rfl, rfl, rfl, rfl, rfl, by decide +kernel, rfl, rfl, rfl, rfl, rfl, rfl, rfl, by decide +kernel, rfl, rfl, rfl, rfl, rfl, by decide +kernel, ⟨rfl, rfl, rfl, Nat.le_of_ble_eq_true rfl⟩, rfl, rfl, rfl, rfl, rfl, by decide +kernel, ⟨rfl, rfl, rfl, Nat.le_of_ble_eq_true rfl⟩, fun h0 => ?_, fun h0 => absurd (show (askL 10 24 5 2 ([0, 1, 2] : List Int) 1) = 0 by decide +kernel) h0⟩
 refine ⟨fun h1 => ?_, fun h1 => absurd (show (askL 10 24 5 2 ([0, 1, 2] : List Int) 1) = 0 by decide +kernel) h1⟩
 refine ⟨fun h2 => ?_, fun h2 => absurd (show (lokE 10 24 5 2 ([0, 1, 2] : List Int) ([0, 1, 2] : List Int) 17) = 0 by decide +kernel) h2⟩
 refine ⟨fun h3 => ?_, fun h3 => absurd (show (lokE 10 24 5 2 ([0, 1, 2] : List Int) ([2] : List Int) 25) = 0 by decide +kernel) h3⟩
 refine ⟨fun h4 => ?_, fun h4 => absurd (show (redL 10 24 5 2 ([0, 1, 2] : List Int) 0 ([(0, 12, ()), (1, 21, ())] : List (Int × (Int × Unit)))) = 0 by decide +kernel) h4⟩
 refine ⟨fun h5 => ?_, fun h5 => absurd (show (redL 10 24 5 2 ([0, 1, 2] : List Int) 0 ([(0, 12, ()), (1, 22, ())] : List (Int × (Int × Unit)))) = 0 by decide +kernel) h5⟩
 refine ⟨fun h6 => ?_, fun h6 => absurd (show (redL 10 24 5 2 ([0, 1, 2] : List Int) 4 ([(0, 12, ()), (1, 22, ())] : List (Int × (Int × Unit)))) = 0 by decide +kernel) h6⟩
 refine ⟨fun h7 => ?_, fun h7 => absurd (show (senE 10 24 5 2 ([0, 1, 2] : List Int) ([(0, 12, ()), (1, 22, ())] : List (Int × (Int × Unit))) 2) = 0 by decide +kernel) h7⟩
 refine ⟨fun h8 => ?_, fun h8 => absurd (show (lstE 10 24 5 2 ([0, 1, 2] : List Int) 0 ([(0, 12, ()), (1, 30, ()), (1, 13, ()), (2, 21, ())] : List (Int × (Int × Unit)))) = 0 by decide +kernel) h8⟩
 refine ⟨fun h9 => ?_, fun h9 => absurd (show (safE 10 24 5 2 ([0, 1, 2] : List Int) 0 12 1) = 0 by decide +kernel) h9⟩
 refine ⟨fun h10 => ?_, fun h10 => absurd (show (safE 10 24 5 2 ([0, 1, 2] : List Int) 0 11 1) = 0 by decide +kernel) h10⟩
 refine ⟨fun h11 => ?_, fun h11 => absurd (show (extE 10 24 5 2 ([0, 1, 2] : List Int) 26) = 0 by decide +kernel) h11⟩
 refine ⟨fun h12 => ?_, fun h12 => absurd (show (if askL 10 24 5 2 ([0, 1, 2] : List Int) 1 = 0 then expF 10 5 1 else 0) = 10 by decide +kernel) h12⟩
 refine ⟨fun h13 => ?_, fun h13 => absurd (show (if askL 10 24 5 2 ([0, 1, 2] : List Int) 1 = 0 then expT 10 24 5 1 else 0) = 21 by decide +kernel) h13⟩
 refine ⟨fun h14 => ?_, fun h14 => absurd (show (if askL 10 24 5 2 ([0, 1, 2] : List Int) 1 = 0 then spanF 10 5 1 else 0) = 15 by decide +kernel) h14⟩
 refine ⟨fun h15 => ?_, fun h15 => absurd (show (if askL 10 24 5 2 ([0, 1, 2] : List Int) 1 = 0 then spanT 10 24 5 1 else 0) = 19 by decide +kernel) h15⟩
 refine ⟨rfl, rfl, rfl, rfl, by decide +kernel, fun h16 => ?_, fun h16 => absurd (show (if chkL 10 24 5 2 ([0, 1, 2] : List Int) = 0 then cntL 10 24 5 else 0) = 3 by decide +kernel) h16⟩
 refine ⟨rfl, rfl, rfl, rfl, rfl, by decide +kernel, fun h17 => ?_, fun h17 => absurd (show (perL 10 24 5 2 ([0, 1, 2] : List Int) 14) = 0 by decide +kernel) h17⟩
 refine ⟨rfl, rfl, rfl, rfl, rfl, by decide +kernel, fun h18 => ?_, fun h18 => absurd (show (perL 10 24 5 2 ([0, 1, 2] : List Int) 25) = (-1) by decide +kernel) h18⟩
 refine ⟨rfl, rfl, rfl, rfl, by decide +kernel, fun h19 => ?_, fun h19 => absurd (show (if chkL (ext0 10 24 5 2 ([0, 1, 2] : List Int) 26 10) (ext0 10 24 5 2 ([0, 1, 2] : List Int) 26 26) (ext0 10 24 5 2 ([0, 1, 2] : List Int) 26 5) (ext0 10 24 5 2 ([0, 1, 2] : List Int) 26 2) (extH 10 24 5 2 ([0, 1, 2] : List Int) 26) = 0 then cntL (ext0 10 24 5 2 ([0, 1, 2] : List Int) 26 10) (ext0 10 24 5 2 ([0, 1, 2] : List Int) 26 26) (ext0 10 24 5 2 ([0, 1, 2] : List Int) 26 5) else 0) = 4 by decide +kernel) h19⟩
 refine ⟨rfl, rfl, rfl, rfl, by decide +kernel, rfl, rfl, rfl, rfl, (decide (lokL 10 24 5 2 ([0, 1, 2] : List Int) ([0, 1, 2] : List Int) 17)), decide_eq_true_iff, rfl, rfl, false, by simp, ⟨by decide +kernel, by decide +kernel, by decide +kernel, by decide +kernel, by decide +kernel, by decide +kernel⟩, fun h20 => ?_, fun h20 => absurd (show ((lokW 10 24 5 2 ([0, 1, 2] : List Int) ([0, 1, 2] : List Int) 17) = ([0] : List Int) ∧ (lokT 10 24 5 2 ([0, 1, 2] : List Int) ([0, 1, 2] : List Int) 17) = ([0] : List Int) ∧ (lokR 10 24 5 2 ([0, 1, 2] : List Int) ([0, 1, 2] : List Int) 17) = ([]) ∧ (lokM 10 24 5 2 ([0, 1, 2] : List Int) ([0, 1, 2] : List Int) 17) = 1 ∧ (lokY 10 24 5 2 ([0, 1, 2] : List Int) ([0, 1, 2] : List Int) 17) = 2 ∧ (((decide (lokL 10 24 5 2 ([0, 1, 2] : List Int) ([0, 1, 2] : List Int) 17)) = true) ↔ (false = true))) by decide +kernel) h20⟩
 refine ⟨rfl, rfl, rfl, (decide (lokL 10 24 5 2 ([0, 1, 2] : List Int) ([2] : List Int) 25)), decide_eq_true_iff, rfl, rfl, false, by simp, ⟨by decide +kernel, by decide +kernel, by decide +kernel, by decide +kernel, by decide +kernel, by decide +kernel⟩, fun h21 => ?_, fun h21 => absurd (show (extE 10 24 5 2 ([0, 1, 2] : List Int) 24) = 4 by decide +kernel) h21⟩
 refine ⟨fun h22 => ?_, fun h22 => absurd (show (chkL 10 24 5 2 ([0, 1, 2] : List Int)) = 0 by decide +kernel) h22⟩
 refine ⟨fun h23 => ?_, fun h23 => absurd (show ((lokW 10 24 5 2 ([0, 1, 2] : List Int) ([2] : List Int) 25) = ([2] : List Int) ∧ (lokT 10 24 5 2 ([0, 1, 2] : List Int) ([2] : List Int) 25) = ([]) ∧ (lokR 10 24 5 2 ([0, 1, 2] : List Int) ([2] : List Int) 25) = ([]) ∧ (lokM 10 24 5 2 ([0, 1, 2] : List Int) ([2] : List Int) 25) = (-1) ∧ (lokY 10 24 5 2 ([0, 1, 2] : List Int) ([2] : List Int) 25) = (-1) ∧ (((decide (lokL 10 24 5 2 ([0, 1, 2] : List Int) ([2] : List Int) 25)) = true) ↔ (false = true))) by decide +kernel) h23⟩
 refine ⟨rfl, ⟨by decide +kernel, by decide +kernel⟩, fun h24 => ?_, fun h24 => absurd (show (telL 10 24 5 2 ([0, 1, 2] : List Int) 0 ([(0, 12, ()), (1, 21, ())] : List (Int × (Int × Unit)))) = ([1] : List Int) by decide +kernel) h24⟩
 refine ⟨fun h25 => ?_, fun h25 => absurd (show (((telL 10 24 5 2 ([0, 1, 2] : List Int) 0 ([(0, 12, ()), (1, 22, ())] : List (Int × (Int × Unit)))).length : Nat) : Int) = 0 by decide +kernel) h25⟩
 refine ⟨rfl, rfl, rfl, ⟨by decide +kernel, by decide +kernel⟩, fun h26 => ?_, fun h26 => absurd (show (telL 10 24 5 2 ([0, 1, 2] : List Int) 4 ([(0, 12, ()), (1, 22, ())] : List (Int × (Int × Unit)))) = ([0, 1, 2] : List Int) by decide +kernel) h26⟩
 refine ⟨fun h27 => ?_, fun h27 => absurd (show (senL 10 24 5 2 ([0, 1, 2] : List Int) ([(0, 12, ()), (1, 22, ())] : List (Int × (Int × Unit))) 2) = 2 by decide +kernel) h27⟩
 refine ⟨rfl, rfl, ⟨by decide +kernel, by decide +kernel⟩, fun h28 => ?_, fun h28 => absurd (show (lstL 10 24 5 2 ([0, 1, 2] : List Int) 0 ([(0, 12, ()), (1, 30, ()), (1, 13, ()), (2, 21, ())] : List (Int × (Int × Unit)))) = ([0, 2] : List Int) by decide +kernel) h28⟩
 refine ⟨fun h29 => ?_, fun h29 => absurd (show safL 10 24 5 2 ([0, 1, 2] : List Int) 0 12 1 = true by decide +kernel) h29⟩
 exact ⟨rfl, rfl, congrArg V.b (propext ⟨fun _ => trivial, fun _ => by decide +kernel⟩), rfl⟩
def CSan : List (Nat × Con) := (27, pureC [] sSan) :: CExa
theorem kSan : Known Tryd.prog (En CSan tys G6 QAt) := kExa.add Tryd.func27 Tryd.call27 [.k] fun ds p v bs h hp => by
 unfold sSan at h
 split at h <;> simp only [Option.some.injEq, Prod.mk.injEq, reduceCtorEq] at h
 obtain ⟨rfl, rfl, rfl⟩ := h
 exact bSan 
end Go.Proofs.YtogipicegdbhdaaDoor.S41c

namespace Go.Proofs.YtogipicegdbhdaaDoor.S41c
open Go Go.Proofs.YtogipicegdbhdaaDoor.Vc Go.Proofs Go.Proofs.YtogipicegdbhdaaDoor.S41
set_option maxRecDepth 100000
theorem ho_ok : ∀ (l : List Int) (p : Int), -1 ≤ p → hsF p l = true → (∀ x ∈ l, p < x ∧ knw x) ∧ l.Pairwise (· < ·)
 | [], _, _, _ => ⟨fun x hx => (by cases hx), .nil⟩
 | h :: t, p, hp, hh => by
  simp only [hsF, Bool.and_eq_true, decide_eq_true_eq] at hh
  obtain ⟨h1, h2⟩ := ho_ok t h (by omega) hh.2
  refine ⟨fun x hx => ?_, List.pairwise_cons.2 ⟨fun x hx => (h1 x hx).1, h2⟩⟩
  rcases List.mem_cons.1 hx with e | hx
  ·subst e; exact ⟨hh.1.2.2, hh.1.1, by omega⟩
  ·exact ⟨by have := (h1 x hx).1; omega, (h1 x hx).2⟩
theorem pair_ok {hs : List Int} (h1 : ∀ x ∈ hs, knw x) (h2 : hs.Pairwise (· < ·)) : hsOk hs = true := by
 refine List.all_eq_true.2 fun k hk => decide_eq_true ?_
 have hk := List.mem_range.1 hk
 refine ⟨h1 _ (S41.getD_mem 0 hs k hk), ?_⟩
 rcases Nat.eq_zero_or_pos k with e | e
 ·exact .inl e
 ·right
  have := List.pairwise_iff_getElem.1 h2 (k - 1) k (by omega) hk (by omega)
  simpa [List.getD_eq_getElem?_getD, hk, show k - 1 < hs.length by omega] using this
def vwB (z : Int) (s : Int × List UInt8 × Unit) : Bool := decide (z / 2 ^ s.1.toNat % 2 = 1)
def vwK (z : Int) (l : List (Int × List UInt8 × Unit)) (k : Nat) : List (Int × List UInt8 × Unit) := (l.take k).filter (vwB z)
theorem vw_sub (z : Int) (l : List (Int × List UInt8 × Unit)) (k : Nat) : (vwK z l k).Sublist l := List.filter_sublist.trans (List.take_sublist _ _)
theorem vw_len (z : Int) (l : List (Int × List UInt8 × Unit)) (k : Nat) : (vwK z l k).length ≤ l.length := (vw_sub z l k).length_le
theorem vw_yes {z : Int} {l : List (Int × List UInt8 × Unit)} {k : Nat} (hk : k < l.length) (h : z / 2 ^ (l.getD k (0, [], ())).1.toNat % 2 = 1) : vwK z l (k + 1) = vwK z l k ++ [l.getD k (0, [], ())] := by
 unfold vwK
 rw [takeD (0, [], ()) l k hk, List.filter_append]
 congr 1
 exact List.filter_cons_of_pos (decide_eq_true h)
theorem vw_no {z : Int} {l : List (Int × List UInt8 × Unit)} {k : Nat} (hk : k < l.length) (h : ¬ z / 2 ^ (l.getD k (0, [], ())).1.toNat % 2 = 1) : vwK z l (k + 1) = vwK z l k := by
 unfold vwK
 rw [takeD (0, [], ()) l k hk, List.filter_append, show List.filter (vwB z) [l.getD k (0, [], ())] = [] from List.filter_cons_of_neg (by unfold vwB; rw [decide_eq_true_eq]; exact h), List.append_nil]
theorem setF2_bit (f : Nat → Bool) (h : Nat) : ∀ k, (setF2 f k).testBit h = (decide (h < k) && f h)
 | 0 => by simp [setF2]
 | k + 1 => by
  have ih := setF2_bit f h k
  rw [setF2]
  by_cases g : f k = true
  ·rw [if_pos g, ← setF2_or, Nat.testBit_or, ih, Nat.testBit_two_pow]
   by_cases e : k = h
   ·subst e; simp [g]
   ·have : decide (h < k + 1) = decide (h < k) := by apply decide_eq_decide.2; omega
    rw [this, decide_eq_false e, Bool.or_false]
  ·rw [if_neg g, Nat.add_zero, ih]
   by_cases e : h = k
   ·subst e; simp [g]
   ·have : decide (h < k + 1) = decide (h < k) := by apply decide_eq_decide.2; omega
    rw [this]
theorem nat_bit (x h : Nat) : ((x : Int) / 2 ^ h % 2 = 1) ↔ x.testBit h = true := by
 rw [Nat.testBit_eq_decide_div_mod_eq, decide_eq_true_eq]
 constructor
 ·intro g
  have : ((x / 2 ^ h % 2 : Nat) : Int) = 1 := by rw [Int.natCast_emod, Int.natCast_ediv, Int.natCast_pow]; exact g
  omega
 ·intro g
  have : ((x / 2 ^ h % 2 : Nat) : Int) = 1 := by rw [g]; rfl
  rwa [Int.natCast_emod, Int.natCast_ediv, Int.natCast_pow] at this
theorem cnt_range (f : Nat → Bool) : ∀ k, cntF f k = ((List.range k).filter f).length
 | 0 => rfl
 | k + 1 => by
  rw [cntF, cnt_range f k, List.range_succ, List.filter_append, List.length_append]
  congr 1
  by_cases g : f k = true
  ·rw [if_pos g, List.filter_cons_of_pos g]; rfl
  ·rw [if_neg g, List.filter_cons_of_neg g]; rfl
theorem cnt_hs {hs : List Int} (h1 : ∀ x ∈ hs, knw x) (h2 : hs.Pairwise (· < ·)) (p : Nat → Bool) : (hs.filter fun x => p x.toNat).length = cntF (fun h => hs.contains (h : Int) && p h) 12 := by
 have e : ∀ L : List Nat, L.length = (L.map fun h : Nat => (h : Int)).length := fun L => (List.length_map ..).symm
 rw [cnt_range, e]
 apply List.Perm.length_eq
 refine (List.perm_ext_iff_of_nodup ?_ ?_).2 fun x => ?_
 ·exact List.Pairwise.filter _ (h2.imp fun h => by omega)
 ·exact List.Pairwise.map _ (fun a b (h : a ≠ b) => by omega) (List.Pairwise.filter _ List.nodup_range)
 ·rw [List.mem_filter, List.mem_map]
  constructor
  ·rintro ⟨hx, hp⟩
   obtain ⟨k1, k2⟩ := h1 x hx
   refine ⟨x.toNat, List.mem_filter.2 ⟨List.mem_range.2 (by omega), ?_⟩, by omega⟩
   rw [Int.toNat_of_nonneg k1, hp, Bool.and_true]
   simpa using hx
  ·rintro ⟨h, hm, rfl⟩
   obtain ⟨_, hm2⟩ := List.mem_filter.1 hm
   rw [Bool.and_eq_true] at hm2
   exact ⟨by simpa using hm2.1, by simpa using hm2.2⟩
theorem vw_cnt {b l d m : Int} {hs : List Int} (hc : Cal b l d m hs) {bad : Int} (h0 : 0 ≤ bad) (caps : List Cp) (q : Nat) {sh : List (Int × List UInt8 × Unit)} (hm : sh.map (·.1) = hs) {k : Nat} (hk : sh.length ≤ k) :
  (vwK (((((setF2 (seenC b l d hs 0 caps q) 12 : Nat) : Int).toNat ||| bad.toNat : Nat)) : Int) sh k).length = cntF (seenC b l d hs bad caps q) 12 := by
 subst hm
 obtain ⟨k1, k2⟩ := ho_ok _ (-1) (by omega) hc.ho
 have k1' : ∀ x ∈ sh.map (·.1), knw x := fun x hx => (k1 x hx).2
 have key := cnt_hs k1' k2 fun h => bitB bad h || caps.any (capIn b l d q h)
 rw [show cntF (seenC b l d (sh.map (·.1)) bad caps q) 12 = _ from key.symm, List.filter_map, List.length_map, vwK, List.take_of_length_le hk]
 congr 1
 apply List.filter_congr
 intro s hs'
 have hsm : s.1 ∈ sh.map (·.1) := List.mem_map.2 ⟨s, hs', rfl⟩
 obtain ⟨g1, g2⟩ := k1' _ hsm
 rw [Bool.eq_iff_iff]
 unfold vwB
 rw [decide_eq_true_eq, nat_bit, Nat.testBit_or, Int.toNat_natCast, setF2_bit, decide_eq_true (by omega : s.1.toNat < 12), Bool.true_and]
 have e1 : bad.toNat.testBit s.1.toNat = bitB bad s.1.toNat := by
  rw [Bool.eq_iff_iff, ← nat_bit, Int.toNat_of_nonneg h0]
  unfold bitB
  rw [decide_eq_true_eq]
 have e2 : seenC b l d (sh.map (·.1)) 0 caps q s.1.toNat = caps.any (capIn b l d q s.1.toNat) := by
  unfold seenC
  have : bitB 0 s.1.toNat = false := decide_eq_false (by rw [Int.zero_ediv]; decide)
  rw [this, Bool.false_or, Int.toNat_of_nonneg g1, show (sh.map (·.1)).contains s.1 = true by simpa using hsm, Bool.true_and]
 rw [e1, e2, Bool.or_comm]
 rfl
theorem tel_is {b l d m : Int} {hs : List Int} {bad : Int} {caps : List Cp} (h : redL b l d m hs bad caps = 0) {q : Nat} (hq : (q : Int) < cntL b l d) : (q : Int) ∈ telL b l d m hs bad caps ↔ m ≤ (cntF (seenC b l d hs bad caps q) 12 : Int) := by
 rw [telL, if_pos h, telG, List.mem_map]
 constructor
 ·rintro ⟨x, hx, e⟩
  have : x = q := Int.ofNat_inj.1 e
  subst this
  exact of_decide_eq_true (List.mem_filter.1 hx).2
 ·intro g
  exact ⟨q, List.mem_filter.2 ⟨List.mem_range.2 (by omega), decide_eq_true g⟩, rfl⟩
theorem sen_is {b l d m : Int} {hs : List Int} {bad : Int} {caps : List Cp} (h : redL b l d m hs bad caps = 0) {q : Nat} (hq : (q : Int) < cntL b l d) : senE b l d m hs caps q = 0 ∧ senL b l d m hs caps q = ((setF2 (seenC b l d hs 0 caps q) 12 : Nat) : Int) := by
 obtain ⟨hc, h0, h1, h2, h3⟩ := red0 h
 have e1 := hc.chk
 have e2 := cap0' h2 h3
 have e3 := hc.ask (q := (q : Int)) (by omega) hq
 refine ⟨by unfold senE; rw [if_pos e1, if_pos e2, e3], ?_⟩
 unfold senL
 rw [if_pos ⟨e1, e2, e3⟩]; rfl
theorem named {b l d m : Int} {hs : List Int} {bad : Int} {caps : List Cp} (h : redL b l d m hs bad caps = 0) {q : Nat} (hq : (q : Int) < cntL b l d) {sh : List (Int × List UInt8 × Unit)} (hm : sh.map (·.1) = hs) {k : Nat} (hk : sh.length ≤ k) :
  (q : Int) ∈ telL b l d m hs bad caps ↔ m ≤ ((vwK ((((senL b l d m hs caps q).toNat ||| bad.toNat : Nat)) : Int) sh k).length : Int) := by
 obtain ⟨hc, h0, _⟩ := red0 h
 rw [tel_is h hq, (sen_is h hq).2, vw_cnt hc h0 caps q hm hk]
end Go.Proofs.YtogipicegdbhdaaDoor.S41c

namespace Go.Proofs.YtogipicegdbhdaaDoor.S41c
open Go Go.Proofs.YtogipicegdbhdaaDoor.Vc Go.Proofs Go.Proofs.YtogipicegdbhdaaDoor.S41
set_option maxRecDepth 100000

def nsL (s : List UInt8) (n : Nat) : List UInt8 := (List.range n).map fun k => s.getD k 0
theorem nsL_len (s : List UInt8) (n : Nat) : (nsL s n).length = n := by simp [nsL]
theorem nsL_snoc (s : List UInt8) (n : Nat) : nsL s (n + 1) = nsL s n ++ [s.getD n 0] := by unfold nsL; rw [List.range_succ, List.map_append]; rfl
def rnQ (rs : List (List UInt8)) (q : Nat) : List UInt8 := if q ≤ rs.length then rs.getD (q - 1) [] else []
def nzQ (rs : List (List UInt8)) (n : Nat) (m : Int) (q : Nat) : List UInt8 := nsL (rnQ rs q) ((((n : Int) * (m - 1)) * ((m - 1) + 1)) / 2).toNat
def perK (key ns : List UInt8) (rs : List (List UInt8)) (m : Int) (hs : List Int) : Nat → List (Int × List UInt8 × Unit)
 | 0 => splL key m hs (nsL ns ((key.length : Int) * (m - 1)).toNat)
 | q + 1 => (perK key ns rs m hs q).map (upS (mkN m key.length (nzQ rs key.length m (q + 1))) (mkC m key.length (nzQ rs key.length m (q + 1))))
theorem perK_next {key ns : List UInt8} {rs : List (List UInt8)} {m : Int} {hs : List Int} {q : Nat} (h : 1 ≤ q) : perK key ns rs m hs q = (perK key ns rs m hs (q - 1)).map (upS (mkN m key.length (nzQ rs key.length m q)) (mkC m key.length (nzQ rs key.length m q))) := by
 obtain ⟨k, rfl⟩ : ∃ k, q = k + 1 := ⟨q - 1, by omega⟩
 rfl
structure Kp (b l d m : Int) (hs : List Int) (n : Nat) : Prop where
 cal : Cal b l d m hs
 m2 : 2 ≤ m
 n8 : n ≤ 8
theorem Kp.ok {b l d m : Int} {hs : List Int} {n : Nat} (h : Kp b l d m hs n) : hsOk hs = true := by
 obtain ⟨h1, h2⟩ := ho_ok hs (-1) (by omega) h.cal.ho
 exact pair_ok (fun x hx => (h1 x hx).2) h2
theorem Kp.m12 {b l d m : Int} {hs : List Int} {n : Nat} (h : Kp b l d m hs n) : m ≤ 12 := by have := h.cal.m2; have := h.cal.h12; omega
theorem Kp.bd {b l d m : Int} {hs : List Int} {n : Nat} (h : Kp b l d m hs n) : (0 ≤ (n : Int) * (m - 1) ∧ (n : Int) * (m - 1) ≤ 45056) ∧ (0 ≤ ((n : Int) * (m - 1)) * ((m - 1) + 1) ∧ ((n : Int) * (m - 1)) * ((m - 1) + 1) ≤ 540672) ∧ (((n : Int) * (m - 1)) * ((m - 1) + 1)) / 2 = (n : Int) * (((m - 1) * m) / 2) :=
 prod_bd h.m2 h.m12 (by omega) (by have := h.n8; omega)
theorem Kp.spl {b l d m : Int} {hs : List Int} {key : List UInt8} (h : Kp b l d m hs key.length) (ns : List UInt8) : Spl key m hs (nsL ns ((key.length : Int) * (m - 1)).toNat) := by
 have := h.n8; have := h.m2; have := h.m12; have := h.cal.m2; have := h.bd.1
 refine ⟨by omega, by omega, by omega, by omega, h.ok, ?_⟩
 rw [nsL_len, Int.toNat_of_nonneg (by omega)]
theorem Kp.mke {b l d m : Int} {hs : List Int} {n : Nat} (h : Kp b l d m hs n) (rs : List (List UInt8)) (q : Nat) : mkE m n (nzQ rs n m q) = 0 := by
 have := h.n8; have := h.m2; have := h.m12; have h2 := h.bd
 unfold mkE
 rw [if_neg (by omega), if_pos]
 unfold nzQ
 rw [nsL_len, h2.2.2, Int.toNat_of_nonneg]
 have := h2.2.1
 omega
theorem Kp.mkn {b l d m : Int} {hs : List Int} {n : Nat} (h : Kp b l d m hs n) (rs : List (List UInt8)) (q : Nat) : mkN m n (nzQ rs n m q) = m := if_pos (h.mke rs q)
theorem Kp.deal {b l d m : Int} {hs : List Int} {n : Nat} (h : Kp b l d m hs n) (rs : List (List UInt8)) (q : Nat) : chkD m (mkC m n (nzQ rs n m q)) = 0 ∧ n00 (mkC m n (nzQ rs n m q)) = n := by
 obtain ⟨h1, h2⟩ := mk_deal (h.mke rs q)
 exact ⟨h1, h2⟩
theorem Kp.ready {b l d m : Int} {hs : List Int} {key : List UInt8} (h : Kp b l d m hs key.length) (ns : List UInt8) (rs : List (List UInt8)) : ∀ q, Ready key m hs (perK key ns rs m hs q)
 | 0 => ⟨fine_spl (h.spl ns), h.ok, by have := h.m2; omega, h.m12, by have := h.n8; omega⟩
 | q + 1 => by
  rw [perK, h.mkn]
  exact (h.ready ns rs q).up (h.deal rs (q + 1)).1 (h.deal rs (q + 1)).2
theorem Kp.mx {b l d m : Int} {hs : List Int} {n : Nat} (h : Kp b l d m hs n) (rs : List (List UInt8)) (q : Nat) : (mkC m n (nzQ rs n m q)).length ≤ 1048576 ∧ ∀ x ∈ mkC m n (nzQ rs n m q), x.length ≤ 1048576 ∧ ∀ y ∈ x, y.length ≤ 1048576 := by
 obtain ⟨h1, h2⟩ := h.deal rs q
 have D := chkD0 h1
 have n3 := D.len; have n12 := D.n12; have := D.max
 exact ⟨by omega, fun x hx => ⟨by have := D.rows x hx; omega, fun y hy => by have := D.strs x hx y hy; omega⟩⟩
theorem Kp.len {b l d m : Int} {hs : List Int} {key : List UInt8} (h : Kp b l d m hs key.length) (ns : List UInt8) (rs : List (List UInt8)) (q : Nat) : (perK key ns rs m hs q).length = hs.length := by
 have e := congrArg List.length (h.ready ns rs q).hm
 rwa [List.length_map] at e
theorem Kp.one {b l d m : Int} {hs : List Int} {key : List UInt8} (h : Kp b l d m hs key.length) (ns : List UInt8) (rs : List (List UInt8)) (q p : Nat) {s : Int × List UInt8 × Unit} (hs' : s ∈ perK key ns rs m hs q) :
  rowE (mkN m key.length (nzQ rs key.length m p)) (mkC m key.length (nzQ rs key.length m p)) s.1 = 0 ∧ updE s.1 s.2.1 [rowL (mkN m key.length (nzQ rs key.length m p)) (mkC m key.length (nzQ rs key.length m p)) s.1] = 0 ∧ (rowL (mkN m key.length (nzQ rs key.length m p)) (mkC m key.length (nzQ rs key.length m p)) s.1).length ≤ 1048576 := by
 have R := h.ready ns rs q
 have K : knw s.1 := hs_knw R.ok _ (by rw [← R.hm]; exact List.mem_map.2 ⟨s, hs', rfl⟩)
 have hl := R.len s hs'
 have U := up_one (h.deal rs p).1 K (by rw [hl]; exact (h.deal rs p).2.symm)
 rw [h.mkn]
 refine ⟨U.1, U.2.1, ?_⟩
 rw [S41.rowL, if_pos U.1]
 show (List.map _ _).length ≤ _
 rw [List.length_map]; exact (h.mx rs p).1
/-! ### shares that are renewed in their place -/
def pkL (l : List (Int × List UInt8 × Unit)) (f : Int × List UInt8 × Unit → Int × List UInt8 × Unit) (i : Nat) : List (Int × List UInt8 × Unit) := (l.take i).map f ++ l.drop i
theorem pk_len (l : List (Int × List UInt8 × Unit)) (f) {i : Nat} (h : i ≤ l.length) : (pkL l f i).length = l.length := by
 unfold pkL
 rw [List.length_append, List.length_map, List.length_take, List.length_drop]; omega
theorem pk_zero (l : List (Int × List UInt8 × Unit)) (f) : pkL l f 0 = l := by simp [pkL]
theorem pk_all (l : List (Int × List UInt8 × Unit)) (f) {i : Nat} (h : l.length ≤ i) : pkL l f i = l.map f := by unfold pkL; rw [List.take_of_length_le h, List.drop_eq_nil_of_le h, List.append_nil]
theorem pk_get (l : List (Int × List UInt8 × Unit)) (f) {i : Nat} (h : i < l.length) : (pkL l f i).getD i (0, [], ()) = l.getD i (0, [], ()) := by
 unfold pkL
 rw [List.getD_eq_getElem?_getD, List.getElem?_append_right (by rw [List.length_map, List.length_take]; omega), List.length_map, List.length_take, List.getElem?_drop, List.getD_eq_getElem?_getD, show i + (i - min i l.length) = i by omega]
theorem pk_set (l : List (Int × List UInt8 × Unit)) (f) {i : Nat} (h : i < l.length) : (pkL l f i).set i (f (l.getD i (0, [], ()))) = pkL l f (i + 1) := by
 unfold pkL
 rw [List.set_append_right _ _ (by rw [List.length_map, List.length_take]; omega), List.length_map, List.length_take, show i - min i l.length = 0 by omega, takeD (0, [], ()) l i h, List.map_append, S41.dropD (0, [], ()) l i h]
 simp
theorem cut_sub {α : Type} (l : List α) (a n : Nat) : ((l.drop a).take n).Sublist l := (List.take_sublist _ _).trans (List.drop_sublist _ _)
end Go.Proofs.YtogipicegdbhdaaDoor.S41c

namespace Go.Proofs.YtogipicegdbhdaaDoor.S41c
open Go Go.Proofs.YtogipicegdbhdaaDoor.Vc Go.Proofs
set_option maxRecDepth 100000
set_option linter.unusedVariables false
open Go.Proofs.YtogipicegdbhdaaDoor.S41
def sByA : List V → Option (Prop × V × List Blk)
 | [.str s, .int .i64 k] => some (0 ≤ k, .u8 (s.getD k.toNat 0), [])
 | _ => none
set_option maxHeartbeats 1000000 in
theorem bByA (s : List UInt8) (k : Int) (hp0 : 0 ≤ k) : bodyP (En CSan tys G6 QAt) Tryd.f66 [.k] [.str s, .int .i64 k] (.u8 (s.getD k.toNat 0)) [] := by
 refine ⟨fun h0 => ?_, fun h0 => ?_⟩
 ·replace h0 : k < (s.length : Int) := h0
  refine ⟨(i0 k (s.length : Int)), ?_⟩
  exact ⟨rfl, rfl, rfl, rfl⟩
 ·replace h0 : ¬ (k < (s.length : Int)) := h0
  rw [show s.getD k.toNat 0 = 0 by simp [List.getD_eq_getElem?_getD, List.getElem?_eq_none (by omega : s.length ≤ k.toNat)]]
  exact ⟨rfl, rfl, rfl, rfl⟩
def CByA : List (Nat × Con) := (66, pureC [.v .str, .v (.int .i64)] sByA) :: CSan
theorem kByA : Known Tryd.prog (En CByA tys G6 QAt) := kSan.add Tryd.func66 Tryd.call66 [.k] fun ds p v bs h hp => by
 unfold sByA at h
 split at h <;> simp only [Option.some.injEq, Prod.mk.injEq, reduceCtorEq] at h
 obtain ⟨rfl, rfl, rfl⟩ := h
 exact bByA _ _ hp
def sNoi : List V → Option (Prop × V × List Blk)
 | [.str s, .int .i64 n] => some (0 ≤ n ∧ n ≤ 1000000, .str (nsL s (Int.toNat n)), [])
 | _ => none
set_option maxHeartbeats 1000000 in
theorem bNoi (s : List UInt8) (n : Int) (hp0 : 0 ≤ n) (hp1 : n ≤ 1000000) : bodyP (En CByA tys G6 QAt) Tryd.f28 [.k] [.str s, .int .i64 n] (.str (nsL s (Int.toNat n))) [] := by
 refine ⟨0, [(0, .k), (5, .o .u8), (7, .k), (8, .k)], fun nM vs H => ∃ (k : Nat), k ≤ n.toNat ∧ nM = n.toNat - k ∧ vs = [.str s, .own .u8 0, .int .i64 n, .int .i64 (k : Int)] ∧ H = [.row true .u8 (nsL s k)], ⟨rfl, n.toNat, 0, by omega, by omega, rfl, rfl⟩, ?_⟩
 rintro nM vs H ⟨k, hc1_0, rfl, rfl, rfl⟩
 have hnl := nsL_len s k
 refine ⟨fun h0 => ?_, fun h0 => ?_⟩
 ·replace h0 : (k : Int) < n := h0
  refine ⟨rfl, by show 0 ≤ (k : Int); first | omega | assumption, ⟨rfl, rfl⟩, by show (nsL s k).length + ([s.getD (k : Int).toNat 0] : List UInt8).length ≤ 1000000000; simp only [List.length_cons, List.length_nil]; omega, (r64 ((k : Int) + 1)), ?_⟩
  exact ⟨rfl, n.toNat - (k + 1), by omega, k + 1, by omega, rfl, rfl, by rw [nsL_snoc]; rfl⟩
 ·replace h0 : ¬ ((k : Int) < n) := h0
  rw [show n.toNat = k by omega]
  exact ⟨rfl, rfl, rfl, rfl⟩
def CNoi : List (Nat × Con) := (28, pureC [.v .str, .v (.int .i64)] sNoi) :: CByA
theorem kNoi : Known Tryd.prog (En CNoi tys G6 QAt) := kByA.add Tryd.func28 Tryd.call28 [.k] fun ds p v bs h hp => by
 unfold sNoi at h
 split at h <;> simp only [Option.some.injEq, Prod.mk.injEq, reduceCtorEq] at h
 obtain ⟨rfl, rfl, rfl⟩ := h
 exact bNoi _ _ hp.1 hp.2
end Go.Proofs.YtogipicegdbhdaaDoor.S41c

namespace Go.Proofs.YtogipicegdbhdaaDoor.S41c
open Go Go.Proofs.YtogipicegdbhdaaDoor.Vc Go.Proofs
set_option maxRecDepth 100000
set_option linter.unusedVariables false
open Go.Proofs.YtogipicegdbhdaaDoor.S41
set_option maxHeartbeats 8000000 in
theorem bLCh (b : Int) (l : Int) (d : Int) (m : Int) (hs : List Int) (sc : List UInt8) (ns : List UInt8) (rs : List (List UInt8)) (bad : Int) (ca : List (Int × (Int × Unit))) (ot : List UInt8) (hp0 : hs.length ≤ 1048576) (hp1 : sc.length ≤ 1048576) (hp2 : ns.length ≤ 1048576) (hp3 : rs.length ≤ 1048576) (hp4 : (∀ s ∈ rs, s.length ≤ 1048576)) (hp5 : ca.length ≤ 1048576) (hp6 : ot.length ≤ 1048576) : bodyP (En CNoi tys G6 QAt [1000002, 5000118, 5000123]) Tryd.f5 [.k] [.agg [.int .i64 b, .int .i64 l, .int .i64 d, .int .i64 m, .sl false (.int .i64) hs], .agg [.str sc, .str ns, .sl false .str rs], .agg [.int .i64 bad, .sl false (.cons (.int .i64) (.cons (.int .i64) .nil)) ca, .str ot]] (.b True) [] := by
 refine ⟨rfl, rfl, rfl, rfl, by show hs.length ≤ 2000000; first | omega | assumption, fun h0 => ?_, fun h0 => ?_⟩
 ·replace h0 : ¬ ((chkL b l d m hs) ≠ 0) := h0
  refine ⟨rfl, rfl, rfl, rfl, rfl, by show hs.length ≤ 2000000; first | omega | assumption, fun h1 => ?_, fun h1 => ?_⟩
  ·replace h1 : ¬ (¬ (fewP b l d m hs 6)) := h1
   refine ⟨fun h2 => ?_, fun h2 => ?_⟩
   ·replace h2 : ¬ (m < 2) := h2
    refine ⟨fun h3 => ?_, fun h3 => ?_⟩
    ·replace h3 : ¬ (8 < (sc.length : Int)) := h3
     refine ⟨fun h4 => ?_, fun h4 => ?_⟩
     ·replace h4 : ¬ (20 < (ca.length : Int)) := h4
      refine ⟨fun h5 => ?_, fun h5 => ?_⟩
      ·replace h5 : ¬ (bad < 0) := h5
       refine ⟨fun h6 => ?_, fun h6 => ?_⟩
       ·replace h6 : 4095 < bad := h6
        refine ⟨trivial, ?_⟩
        exact ⟨rfl, rfl, rfl, rfl⟩
       ·replace h6 : ¬ (4095 < bad) := h6
        have hc := chk0 (Classical.not_not.1 h0)
        have hK : Kp b l d m hs sc.length := ⟨hc, by omega, by omega⟩
        obtain ⟨⟨bd1, bd2⟩, ⟨bd3, bd4⟩, _⟩ := hK.bd
        have hpn : (if chkL b l d m hs = 0 then cntL b l d else 0) = cntL b l d := if_pos hc.chk
        have hm2 := hc.m2
        have h12 := hc.h12
        have hc1 := hc.c1
        have hc2 := hc.c2
        refine ⟨by kernel_rfl, (r64 (m - 1)), (r64 ((sc.length : Int) * (m - 1))), rfl, ⟨by show 0 ≤ ((sc.length : Int) * (m - 1)); first | omega | assumption, by show ((sc.length : Int) * (m - 1)) ≤ 1000000; first | omega | assumption⟩, rfl, ⟨by show sc.length ≤ 1048576; first | omega | assumption, by show hs.length ≤ 1048576; first | omega | assumption, by show (nsL ns (Int.toNat ((sc.length : Int) * (m - 1)))).length ≤ 1048576; rw [nsL_len]; omega⟩, rfl, rfl, rfl, rfl, rfl, ⟨by show hs.length ≤ 2000000; first | omega | assumption, by show ca.length ≤ 2000000; first | omega | assumption⟩, fun h7 => ?_, fun h7 => ?_⟩
        ·replace h7 : (splE sc m hs (nsL ns (Int.toNat ((sc.length : Int) * (m - 1))))) ≠ 0 := h7
         exact (h7 (hK.spl ns).e).elim
        ·replace h7 : ¬ ((splE sc m hs (nsL ns (Int.toNat ((sc.length : Int) * (m - 1))))) ≠ 0) := h7
         refine ⟨rfl, ⟨by show 0 ≤ (sc.length : Int); first | omega | assumption, by show (sc.length : Int) ≤ 1000000; first | omega | assumption⟩, rfl, rfl, rfl, rfl, by show hs.length ≤ 2000000; first | omega | assumption, 5, [(3, .k), (4, .k), (5, .k), (7, .k), (8, .k), (10, .k), (11, .k), (12, .k), (107, .k), (108, .k)], fun nM vs H => ∃ (q : Nat), q ≤ (if chkL b l d m hs = 0 then cntL b l d else 0).toNat ∧ nM = (if chkL b l d m hs = 0 then cntL b l d else 0).toNat - q ∧ vs = [.ptr 0 1 0 0, .ptr 1 1 0 0, .ptr 2 1 0 0, .int .i64 (sc.length : Int), .own (.cons (.int .i64) (.cons .str .nil)) 3, .own (.int .i64) 4, .int .i64 (redL b l d m hs bad ca), .str (nsL ot (Int.toNat (sc.length : Int))), .int .i64 (if chkL b l d m hs = 0 then cntL b l d else 0), .int .i64 (q : Int)] ∧ H = [.cells [.int .i64 b, .int .i64 l, .int .i64 d, .int .i64 m, .sl false (.int .i64) hs], .cells [.str sc, .str ns, .sl false .str rs], .cells [.int .i64 bad, .sl false (.cons (.int .i64) (.cons (.int .i64) .nil)) ca, .str ot], .row true (.cons (.int .i64) (.cons .str .nil)) (perK sc ns rs m hs (q - 1)), .row true (.int .i64) (telL b l d m hs bad ca)], ⟨rfl, (if chkL b l d m hs = 0 then cntL b l d else 0).toNat, 0, by omega, by omega, rfl, rfl⟩, ?_⟩
         rintro nM vs H ⟨q, hc1_0, rfl, rfl, rfl⟩
         refine ⟨fun h8 => ?_, fun h8 => ?_⟩
         ·replace h8 : (q : Int) < (if chkL b l d m hs = 0 then cntL b l d else 0) := h8
          have hpl := hK.len ns rs (q - 1)
          have hpl2 := hK.len ns rs q
          have hR := hK.ready ns rs q
          refine ⟨fun h9 => ?_, fun h9 => ?_⟩
          ·replace h9 : (((perK sc ns rs m hs (q - 1)).length : Nat) : Int) ≠ (hs.length : Int) := h9
           omega
          ·replace h9 : ¬ ((((perK sc ns rs m hs (q - 1)).length : Nat) : Int) ≠ (hs.length : Int)) := h9
           refine ⟨5, [(3, .k), (4, .k), (5, .k), (7, .k), (8, .o (.cons (.int .i64) (.cons .str .nil))), (10, .k), (11, .k), (12, .k), (13, .k), (107, .k), (108, .k)], fun vs H => vs = [.ptr 0 1 0 0, .ptr 1 1 0 0, .ptr 2 1 0 0, .int .i64 (sc.length : Int), .own (.cons (.int .i64) (.cons .str .nil)) 3, .own (.int .i64) 4, .int .i64 (redL b l d m hs bad ca), .str (nsL ot (Int.toNat (sc.length : Int))), .int .i64 (q : Int), .int .i64 (if chkL b l d m hs = 0 then cntL b l d else 0), .int .i64 (q : Int)] ∧ H = [.cells [.int .i64 b, .int .i64 l, .int .i64 d, .int .i64 m, .sl false (.int .i64) hs], .cells [.str sc, .str ns, .sl false .str rs], .cells [.int .i64 bad, .sl false (.cons (.int .i64) (.cons (.int .i64) .nil)) ca, .str ot], .row true (.cons (.int .i64) (.cons .str .nil)) (perK sc ns rs m hs q), .row true (.int .i64) (telL b l d m hs bad ca)], fun hj118 => ?_, fun hj118 => ?_, ?_⟩
           ·replace hj118 : 0 < (q : Int) := hj118
            refine ⟨5, [(3, .k), (4, .k), (5, .k), (7, .k), (8, .k), (10, .k), (11, .k), (12, .k), (13, .k), (14, .k), (107, .k), (108, .k)], fun vs H => vs = [.ptr 0 1 0 0, .ptr 1 1 0 0, .ptr 2 1 0 0, .int .i64 (sc.length : Int), .own (.cons (.int .i64) (.cons .str .nil)) 3, .own (.int .i64) 4, .int .i64 (redL b l d m hs bad ca), .str (nsL ot (Int.toNat (sc.length : Int))), .int .i64 (q : Int), .str (rnQ rs q), .int .i64 (if chkL b l d m hs = 0 then cntL b l d else 0), .int .i64 (q : Int)] ∧ H = [.cells [.int .i64 b, .int .i64 l, .int .i64 d, .int .i64 m, .sl false (.int .i64) hs], .cells [.str sc, .str ns, .sl false .str rs], .cells [.int .i64 bad, .sl false (.cons (.int .i64) (.cons (.int .i64) .nil)) ca, .str ot], .row true (.cons (.int .i64) (.cons .str .nil)) (perK sc ns rs m hs (q - 1)), .row true (.int .i64) (telL b l d m hs bad ca)], fun hj123 => ?_, fun hj123 => ?_, ?_⟩
            ·replace hj123 : (q : Int) ≤ (rs.length : Int) := hj123
             refine ⟨(r64 ((q : Int) - 1)), (i0 ((q : Int) - 1) (rs.length : Int)), ?_⟩
             have e : rnQ rs q = rs.getD ((q : Int) - 1).toNat [] := by rw [rnQ, if_pos (by omega), show ((q : Int) - 1).toNat = q - 1 by omega]
             exact ⟨rfl, by rw [e]; rfl, rfl⟩
            ·replace hj123 : ¬ ((q : Int) ≤ (rs.length : Int)) := hj123
             have e : rnQ rs q = [] := if_neg (by omega)
             exact ⟨rfl, by rw [e]; rfl, rfl⟩
            ·rintro vs H ⟨rfl, rfl⟩
             refine ⟨(r64 (m - 1)), by kernel_rfl, (r64 ((sc.length : Int) * (m - 1))), (r64 ((m - 1) + 1)), (r64 (((sc.length : Int) * (m - 1)) * ((m - 1) + 1))), .inl ⟨⟨by show (0 : Int) ≤ (((sc.length : Int) * (m - 1)) * ((m - 1) + 1)); omega, by show (0 : Int) < 2; omega⟩, ?_⟩⟩
             refine ⟨rfl, ⟨by show 0 ≤ ((((sc.length : Int) * (m - 1)) * ((m - 1) + 1)) / 2); first | omega | assumption, by show ((((sc.length : Int) * (m - 1)) * ((m - 1) + 1)) / 2) ≤ 1000000; first | omega | assumption⟩, rfl, rfl, trivial, ⟨rfl, rfl, rfl, Nat.le_of_ble_eq_true rfl⟩, fun h10 => ?_, fun h10 => ?_⟩
             ·replace h10 : (mkE m (sc.length : Int) (nsL (rnQ rs q) (Int.toNat ((((sc.length : Int) * (m - 1)) * ((m - 1) + 1)) / 2)))) ≠ 0 := h10
              exact (h10 (hK.mke rs q)).elim
             ·replace h10 : ¬ ((mkE m (sc.length : Int) (nsL (rnQ rs q) (Int.toNat ((((sc.length : Int) * (m - 1)) * ((m - 1) + 1)) / 2)))) ≠ 0) := h10
              have hmx := hK.mx rs q
              refine ⟨6, [(3, .k), (4, .k), (5, .k), (7, .k), (8, .k), (10, .k), (11, .k), (12, .k), (13, .k), (16, .k), (107, .k), (108, .k), (151, .k), (152, .k), (153, .k)], fun nM vs H => ∃ (i : Nat), i ≤ (perK sc ns rs m hs (q - 1)).length ∧ nM = (perK sc ns rs m hs (q - 1)).length - i ∧ vs = [.ptr 0 1 0 0, .ptr 1 1 0 0, .ptr 2 1 0 0, .int .i64 (sc.length : Int), .own (.cons (.int .i64) (.cons .str .nil)) 3, .own (.int .i64) 4, .int .i64 (redL b l d m hs bad ca), .str (nsL ot (Int.toNat (sc.length : Int))), .int .i64 (q : Int), .ptr 5 1 0 0, .int .i64 (if chkL b l d m hs = 0 then cntL b l d else 0), .int .i64 (q : Int), .own (.cons (.int .i64) (.cons .str .nil)) 3, .int .i64 (((perK sc ns rs m hs (q - 1)).length : Nat) : Int), .int .i64 (i : Int)] ∧ H = [.cells [.int .i64 b, .int .i64 l, .int .i64 d, .int .i64 m, .sl false (.int .i64) hs], .cells [.str sc, .str ns, .sl false .str rs], .cells [.int .i64 bad, .sl false (.cons (.int .i64) (.cons (.int .i64) .nil)) ca, .str ot], .row true (.cons (.int .i64) (.cons .str .nil)) (pkL (perK sc ns rs m hs (q - 1)) (upS (mkN m (sc.length : Int) (nzQ rs sc.length m q)) (mkC m (sc.length : Int) (nzQ rs sc.length m q))) i), .row true (.int .i64) (telL b l d m hs bad ca), .cells [.int .i64 (mkN m (sc.length : Int) (nsL (rnQ rs q) (Int.toNat ((((sc.length : Int) * (m - 1)) * ((m - 1) + 1)) / 2)))), .sl true (.sl .str) (mkC m (sc.length : Int) (nsL (rnQ rs q) (Int.toNat ((((sc.length : Int) * (m - 1)) * ((m - 1) + 1)) / 2))))]], ⟨rfl, (perK sc ns rs m hs (q - 1)).length, 0, by omega, by omega, rfl, by rw [pk_zero]; rfl⟩, ?_⟩
              rintro nM vs H ⟨i, hc2_0, rfl, rfl, rfl⟩
              refine ⟨fun h11 => ?_, fun h11 => ?_⟩
              ·replace h11 : (i : Int) < (((perK sc ns rs m hs (q - 1)).length : Nat) : Int) := h11
               have hi : i < (perK sc ns rs m hs (q - 1)).length := by omega
               have hpk := pk_len (perK sc ns rs m hs (q - 1)) (upS (mkN m (sc.length : Int) (nzQ rs sc.length m q)) (mkC m (sc.length : Int) (nzQ rs sc.length m q))) (i := i) (by omega)
               have hge : (pkL (perK sc ns rs m hs (q - 1)) (upS (mkN m (sc.length : Int) (nzQ rs sc.length m q)) (mkC m (sc.length : Int) (nzQ rs sc.length m q))) i).getD i (0, [], ()) = (perK sc ns rs m hs (q - 1)).getD i (0, [], ()) := pk_get _ _ hi
               have hone := hK.one ns rs (q - 1) q (S41.getD_mem (0, [], ()) (perK sc ns rs m hs (q - 1)) i hi)
               refine ⟨(i0 (i : Int) ((pkL (perK sc ns rs m hs (q - 1)) (upS (mkN m (sc.length : Int) (nzQ rs sc.length m q)) (mkC m (sc.length : Int) (nzQ rs sc.length m q))) i).length : Int)), ⟨rfl, rfl, rfl, Nat.le_of_ble_eq_true rfl⟩, rfl, rfl, ⟨hmx.1, hmx.2⟩, rfl, ⟨by show ([rowL (mkN m (sc.length : Int) (nsL (rnQ rs q) (Int.toNat ((((sc.length : Int) * (m - 1)) * ((m - 1) + 1)) / 2)))) (mkC m (sc.length : Int) (nsL (rnQ rs q) (Int.toNat ((((sc.length : Int) * (m - 1)) * ((m - 1) + 1)) / 2)))) (((pkL (perK sc ns rs m hs (q - 1)) (upS (mkN m (sc.length : Int) (nzQ rs sc.length m q)) (mkC m (sc.length : Int) (nzQ rs sc.length m q))) i).getD i (0, ([], ()))).1)] : List (List (List UInt8))).length ≤ 1048576; first | omega | assumption | (simp only [List.length_cons, List.length_nil, List.length_append, List.length_take, List.length_drop, List.length_set, List.length_replicate]; omega), (fun x hx => by rw [List.mem_singleton.1 hx]; show (rowL (mkN m (sc.length : Int) (nzQ rs sc.length m q)) (mkC m (sc.length : Int) (nzQ rs sc.length m q)) ((pkL (perK sc ns rs m hs (q - 1)) (upS (mkN m (sc.length : Int) (nzQ rs sc.length m q)) (mkC m (sc.length : Int) (nzQ rs sc.length m q))) i).getD i (0, [], ())).1).length ≤ 1048576; rw [hge]; exact hone.2.2)⟩, ⟨rfl, rfl, rfl, Nat.le_of_ble_eq_true rfl⟩, fun h12 => ?_, fun h12 => ?_⟩
               ·replace h12 : ¬ ((rowE (mkN m (sc.length : Int) (nsL (rnQ rs q) (Int.toNat ((((sc.length : Int) * (m - 1)) * ((m - 1) + 1)) / 2)))) (mkC m (sc.length : Int) (nsL (rnQ rs q) (Int.toNat ((((sc.length : Int) * (m - 1)) * ((m - 1) + 1)) / 2)))) (((pkL (perK sc ns rs m hs (q - 1)) (upS (mkN m (sc.length : Int) (nzQ rs sc.length m q)) (mkC m (sc.length : Int) (nzQ rs sc.length m q))) i).getD i (0, ([], ()))).1)) ≠ 0) := h12
                refine ⟨fun h13 => ?_, fun h13 => ?_⟩
                ·replace h13 : (updE (((pkL (perK sc ns rs m hs (q - 1)) (upS (mkN m (sc.length : Int) (nzQ rs sc.length m q)) (mkC m (sc.length : Int) (nzQ rs sc.length m q))) i).getD i (0, ([], ()))).1) ((((pkL (perK sc ns rs m hs (q - 1)) (upS (mkN m (sc.length : Int) (nzQ rs sc.length m q)) (mkC m (sc.length : Int) (nzQ rs sc.length m q))) i).getD i (0, ([], ()))).2).1) ([rowL (mkN m (sc.length : Int) (nsL (rnQ rs q) (Int.toNat ((((sc.length : Int) * (m - 1)) * ((m - 1) + 1)) / 2)))) (mkC m (sc.length : Int) (nsL (rnQ rs q) (Int.toNat ((((sc.length : Int) * (m - 1)) * ((m - 1) + 1)) / 2)))) (((pkL (perK sc ns rs m hs (q - 1)) (upS (mkN m (sc.length : Int) (nzQ rs sc.length m q)) (mkC m (sc.length : Int) (nzQ rs sc.length m q))) i).getD i (0, ([], ()))).1)] : List (List (List UInt8)))) ≠ 0 := h13
                 rw [hge] at h13
                 exact (h13 hone.2.1).elim
                ·replace h13 : ¬ ((updE (((pkL (perK sc ns rs m hs (q - 1)) (upS (mkN m (sc.length : Int) (nzQ rs sc.length m q)) (mkC m (sc.length : Int) (nzQ rs sc.length m q))) i).getD i (0, ([], ()))).1) ((((pkL (perK sc ns rs m hs (q - 1)) (upS (mkN m (sc.length : Int) (nzQ rs sc.length m q)) (mkC m (sc.length : Int) (nzQ rs sc.length m q))) i).getD i (0, ([], ()))).2).1) ([rowL (mkN m (sc.length : Int) (nsL (rnQ rs q) (Int.toNat ((((sc.length : Int) * (m - 1)) * ((m - 1) + 1)) / 2)))) (mkC m (sc.length : Int) (nsL (rnQ rs q) (Int.toNat ((((sc.length : Int) * (m - 1)) * ((m - 1) + 1)) / 2)))) (((pkL (perK sc ns rs m hs (q - 1)) (upS (mkN m (sc.length : Int) (nzQ rs sc.length m q)) (mkC m (sc.length : Int) (nzQ rs sc.length m q))) i).getD i (0, ([], ()))).1)] : List (List (List UInt8)))) ≠ 0) := h13
                 refine ⟨(i0 (i : Int) ((pkL (perK sc ns rs m hs (q - 1)) (upS (mkN m (sc.length : Int) (nzQ rs sc.length m q)) (mkC m (sc.length : Int) (nzQ rs sc.length m q))) i).length : Int)), rfl, ⟨fun h => (by first | rfl | cases h), rfl, rfl⟩, (r64 ((i : Int) + 1)), ?_⟩
                 exact ⟨rfl, (perK sc ns rs m hs (q - 1)).length - (i + 1), by omega, i + 1, by omega, rfl, rfl, by rw [← pk_set _ _ hi, ← hge]; rfl⟩
               ·replace h12 : (rowE (mkN m (sc.length : Int) (nsL (rnQ rs q) (Int.toNat ((((sc.length : Int) * (m - 1)) * ((m - 1) + 1)) / 2)))) (mkC m (sc.length : Int) (nsL (rnQ rs q) (Int.toNat ((((sc.length : Int) * (m - 1)) * ((m - 1) + 1)) / 2)))) (((pkL (perK sc ns rs m hs (q - 1)) (upS (mkN m (sc.length : Int) (nzQ rs sc.length m q)) (mkC m (sc.length : Int) (nzQ rs sc.length m q))) i).getD i (0, ([], ()))).1)) ≠ 0 := h12
                rw [hge] at h12
                exact (h12 hone.1).elim
              ·replace h11 : ¬ ((i : Int) < (((perK sc ns rs m hs (q - 1)).length : Nat) : Int)) := h11
               have hnx : pkL (perK sc ns rs m hs (q - 1)) (upS (mkN m (sc.length : Int) (nzQ rs sc.length m q)) (mkC m (sc.length : Int) (nzQ rs sc.length m q))) i = (perK sc ns rs m hs q) := by rw [pk_all _ _ (by omega)]; exact (perK_next (by omega)).symm
               exact ⟨rfl, rfl, by rw [hnx]; rfl⟩
           ·replace hj118 : ¬ (0 < (q : Int)) := hj118
            obtain rfl : q = 0 := by omega
            exact ⟨rfl, rfl, rfl⟩
           ·rintro vs H ⟨rfl, rfl⟩
            refine ⟨5, [(3, .k), (4, .k), (5, .k), (7, .k), (8, .k), (10, .k), (11, .k), (12, .k), (13, .k), (24, .k), (107, .k), (108, .k)], fun nM vs H => ∃ (a : Nat), a ≤ (perK sc ns rs m hs q).length ∧ nM = (perK sc ns rs m hs q).length - a ∧ vs = [.ptr 0 1 0 0, .ptr 1 1 0 0, .ptr 2 1 0 0, .int .i64 (sc.length : Int), .own (.cons (.int .i64) (.cons .str .nil)) 3, .own (.int .i64) 4, .int .i64 (redL b l d m hs bad ca), .str (nsL ot (Int.toNat (sc.length : Int))), .int .i64 (q : Int), .int .i64 (a : Int), .int .i64 (if chkL b l d m hs = 0 then cntL b l d else 0), .int .i64 (q : Int)] ∧ H = [.cells [.int .i64 b, .int .i64 l, .int .i64 d, .int .i64 m, .sl false (.int .i64) hs], .cells [.str sc, .str ns, .sl false .str rs], .cells [.int .i64 bad, .sl false (.cons (.int .i64) (.cons (.int .i64) .nil)) ca, .str ot], .row true (.cons (.int .i64) (.cons .str .nil)) (perK sc ns rs m hs q), .row true (.int .i64) (telL b l d m hs bad ca)], ⟨rfl, (perK sc ns rs m hs q).length, 0, by omega, by omega, rfl, rfl⟩, ?_⟩
            rintro nM vs H ⟨a, hc3_0, rfl, rfl, rfl⟩
            refine ⟨(r64 ((a : Int) + m)), fun h14 => ?_, fun h14 => ?_⟩
            ·replace h14 : ((a : Int) + m) ≤ (((perK sc ns rs m hs q).length : Nat) : Int) := h14
             have hsub := cut_sub (perK sc ns rs m hs q) a (((a : Int) + m).toNat - a)
             have hcl : ((((perK sc ns rs m hs q).drop a).take (((a : Int) + m).toNat - a)).length : Int) = m := by rw [List.length_take, List.length_drop]; omega
             have hj := hR.join hsub (by omega)
             refine ⟨by kernel_rfl, (r64 ((a : Int) + m)), ⟨by omega, by omega, by omega⟩, rfl, by show (((perK sc ns rs m hs q).drop a).take (((a : Int) + m).toNat - a)).length ≤ 1048576; omega, fun h15 => ?_, fun h15 => ?_⟩
             ·replace h15 : ¬ ((joE (((perK sc ns rs m hs q).drop a).take (((a : Int) + m).toNat - a)) m) ≠ 0) := h15
              refine ⟨fun h16 => ?_, fun h16 => ?_⟩
              ·replace h16 : (joS (((perK sc ns rs m hs q).drop a).take (((a : Int) + m).toNat - a)) m 0) ≠ sc := h16
               exact (h16 hj.2).elim
              ·replace h16 : ¬ ((joS (((perK sc ns rs m hs q).drop a).take (((a : Int) + m).toNat - a)) m 0) ≠ sc) := h16
               refine ⟨(r64 ((a : Int) + 1)), ?_⟩
               exact ⟨rfl, (perK sc ns rs m hs q).length - (a + 1), by omega, a + 1, by omega, rfl, rfl, rfl⟩
             ·replace h15 : (joE (((perK sc ns rs m hs q).drop a).take (((a : Int) + m).toNat - a)) m) ≠ 0 := h15
              exact (h15 hj.1).elim
            ·replace h14 : ¬ (((a : Int) + m) ≤ (((perK sc ns rs m hs q).length : Nat) : Int)) := h14
             refine ⟨rfl, rfl, rfl, rfl, rfl, ⟨by show hs.length ≤ 2000000; first | omega | assumption, by show ca.length ≤ 2000000; first | omega | assumption⟩, fun h17 => ?_, fun h17 => ?_⟩
             ·replace h17 : ¬ ((redL b l d m hs bad ca) ≠ 0) := h17
              have hr := Classical.not_not.1 h17
              have hqc : (q : Int) < cntL b l d := by omega
              have hsen := sen_is hr hqc
              have hs0 : 0 ≤ senL b l d m hs ca (q : Int) := by rw [hsen.2]; exact Int.natCast_nonneg _
              refine ⟨fun h18 => ?_, fun h18 => ?_⟩
              ·replace h18 : 0 < (((telL b l d m hs bad ca).length : Nat) : Int) := h18
               refine ⟨(r64 ((q : Int) + 1)), ?_⟩
               exact ⟨rfl, (if chkL b l d m hs = 0 then cntL b l d else 0).toNat - (q + 1), by omega, q + 1, by omega, rfl, rfl, rfl⟩
              ·replace h18 : ¬ (0 < (((telL b l d m hs bad ca).length : Nat) : Int)) := h18
               have hnt : ¬ (q : Int) ∈ telL b l d m hs bad ca := fun g => by have := List.length_pos_of_mem g; omega
               refine ⟨fun h19 => ?_, fun h19 => ?_⟩
               ·replace h19 : (senE b l d m hs ca (q : Int)) ≠ 0 := h19
                exact (h19 hsen.1).elim
               ·replace h19 : ¬ ((senE b l d m hs ca (q : Int)) ≠ 0) := h19
                refine ⟨5, [(3, .k), (4, .k), (5, .k), (7, .k), (8, .k), (10, .k), (11, .k), (12, .k), (27, .k), (29, .o (.cons (.int .i64) (.cons .str .nil))), (107, .k), (108, .k), (230, .k), (231, .k), (232, .k)], fun nM vs H => ∃ (i : Nat), i ≤ (perK sc ns rs m hs q).length ∧ nM = (perK sc ns rs m hs q).length - i ∧ vs = [.ptr 0 1 0 0, .ptr 1 1 0 0, .ptr 2 1 0 0, .int .i64 (sc.length : Int), .own (.cons (.int .i64) (.cons .str .nil)) 3, .own (.int .i64) 4, .int .i64 (redL b l d m hs bad ca), .str (nsL ot (Int.toNat (sc.length : Int))), .int .i64 (senL b l d m hs ca (q : Int)), .own (.cons (.int .i64) (.cons .str .nil)) 5, .int .i64 (if chkL b l d m hs = 0 then cntL b l d else 0), .int .i64 (q : Int), .own (.cons (.int .i64) (.cons .str .nil)) 3, .int .i64 (((perK sc ns rs m hs q).length : Nat) : Int), .int .i64 (i : Int)] ∧ H = [.cells [.int .i64 b, .int .i64 l, .int .i64 d, .int .i64 m, .sl false (.int .i64) hs], .cells [.str sc, .str ns, .sl false .str rs], .cells [.int .i64 bad, .sl false (.cons (.int .i64) (.cons (.int .i64) .nil)) ca, .str ot], .row true (.cons (.int .i64) (.cons .str .nil)) (perK sc ns rs m hs q), .row true (.int .i64) (telL b l d m hs bad ca), .row true (.cons (.int .i64) (.cons .str .nil)) (vwK ((((senL b l d m hs ca (q : Int)).toNat ||| bad.toNat : Nat)) : Int) (perK sc ns rs m hs q) i)], ⟨rfl, (perK sc ns rs m hs q).length, 0, by omega, by omega, rfl, rfl⟩, ?_⟩
                rintro nM vs H ⟨i, hc4_0, rfl, rfl, rfl⟩
                have hvl := vw_len ((((senL b l d m hs ca (q : Int)).toNat ||| bad.toNat : Nat)) : Int) (perK sc ns rs m hs q) i
                refine ⟨fun h20 => ?_, fun h20 => ?_⟩
                ·replace h20 : (i : Int) < (((perK sc ns rs m hs q).length : Nat) : Int) := h20
                 have hi : i < (perK sc ns rs m hs q).length := by omega
                 have hkw : ∀ x ∈ (perK sc ns rs m hs q).map (·.1), knw x := by rw [hR.hm]; exact hs_knw hR.ok
                 obtain ⟨w1, w2⟩ : knw ((perK sc ns rs m hs q).getD i (0, [], ())).1 := hkw _ (List.mem_map.2 ⟨_, S41.getD_mem _ _ _ hi, rfl⟩)
                 refine ⟨(i0 (i : Int) ((perK sc ns rs m hs q).length : Int)), ⟨rfl, rfl, rfl, Nat.le_of_ble_eq_true rfl⟩, .inl ⟨⟨by show (0 : Int) ≤ (senL b l d m hs ca (q : Int)); omega, by show (0 : Int) ≤ bad; omega⟩, ?_⟩⟩
                 refine ⟨⟨by show (0 : Int) ≤ ((perK sc ns rs m hs q).getD i (0, ([], ()))).1; omega, by show ((perK sc ns rs m hs q).getD i (0, ([], ()))).1 ≤ (64 : Int); omega⟩, .inr ⟨rfl, ?_⟩⟩
                 refine ⟨fun h21 => ?_, fun h21 => ?_⟩
                 ·replace h21 : (((((senL b l d m hs ca (q : Int)).toNat ||| bad.toNat : Nat) : Int) / 2 ^ ((((perK sc ns rs m hs q).getD i (0, ([], ()))).1).toNat)) % 2) = 1 := h21
                  refine ⟨rfl, ⟨rfl, rfl⟩, by show (vwK ((((senL b l d m hs ca (q : Int)).toNat ||| bad.toNat : Nat)) : Int) (perK sc ns rs m hs q) i).length + ([(((perK sc ns rs m hs q).getD i (0, ([], ()))).1, (((perK sc ns rs m hs q).getD i (0, ([], ()))).2).1, ())] : List (Int × (List UInt8 × Unit))).length ≤ 1000000000; simp only [List.length_cons, List.length_nil]; omega, (r64 ((i : Int) + 1)), ?_⟩
                  first
                  | exact ⟨rfl, (perK sc ns rs m hs q).length - (i + 1), by omega, i + 1, by omega, rfl, rfl, by rw [vw_yes hi (by assumption)]; rfl⟩
                  | exact ⟨rfl, (perK sc ns rs m hs q).length - (i + 1), by omega, i + 1, by omega, rfl, rfl, by rw [vw_no hi (by assumption)]; rfl⟩
                 ·replace h21 : ¬ ((((((senL b l d m hs ca (q : Int)).toNat ||| bad.toNat : Nat) : Int) / 2 ^ ((((perK sc ns rs m hs q).getD i (0, ([], ()))).1).toNat)) % 2) = 1) := h21
                  refine ⟨(r64 ((i : Int) + 1)), ?_⟩
                  first
                  | exact ⟨rfl, (perK sc ns rs m hs q).length - (i + 1), by omega, i + 1, by omega, rfl, rfl, by rw [vw_yes hi (by assumption)]; rfl⟩
                  | exact ⟨rfl, (perK sc ns rs m hs q).length - (i + 1), by omega, i + 1, by omega, rfl, rfl, by rw [vw_no hi (by assumption)]; rfl⟩
                ·replace h20 : ¬ ((i : Int) < (((perK sc ns rs m hs q).length : Nat) : Int)) := h20
                 have hfull : (perK sc ns rs m hs q).length ≤ i := by omega
                 have hsub2 := vw_sub ((((senL b l d m hs ca (q : Int)).toNat ||| bad.toNat : Nat)) : Int) (perK sc ns rs m hs q) i
                 have hnm := named hr hqc hR.hm hfull
                 have hfew : ¬ m ≤ (((vwK ((((senL b l d m hs ca (q : Int)).toNat ||| bad.toNat : Nat)) : Int) (perK sc ns rs m hs q) i).length : Nat) : Int) := fun g => hnt (hnm.2 g)
                 have hol : (nsL ot (Int.toNat (sc.length : Int))).length = sc.length := nsL_len _ _
                 have he := hR.few hsub2 hfew hol
                 obtain ⟨pr1, pr2⟩ := mul_bd (a := (sc.length : Int)) (b := (m - 1) - (((vwK ((((senL b l d m hs ca (q : Int)).toNat ||| bad.toNat : Nat)) : Int) (perK sc ns rs m hs q) i).length : Nat) : Int)) (A := 8) (B := 12) (by omega) (by omega) (by omega) (by omega)
                 refine ⟨rfl, ⟨by show (vwK ((((senL b l d m hs ca (q : Int)).toNat ||| bad.toNat : Nat)) : Int) (perK sc ns rs m hs q) i).length ≤ 1048576; first | omega | assumption, by show (nsL ot (Int.toNat (sc.length : Int))).length ≤ 1048576; rw [nsL_len]; omega⟩, fun h22 => ?_, fun h22 => ?_⟩
                 ·replace h22 : ¬ (¬ (ftP (vwK ((((senL b l d m hs ca (q : Int)).toNat ||| bad.toNat : Nat)) : Int) (perK sc ns rs m hs q) i) m (nsL ot (Int.toNat (sc.length : Int))))) := h22
                  refine ⟨(r64 (m - 1)), (r64 ((m - 1) - (((vwK ((((senL b l d m hs ca (q : Int)).toNat ||| bad.toNat : Nat)) : Int) (perK sc ns rs m hs q) i).length : Nat) : Int))), (r64 ((sc.length : Int) * ((m - 1) - (((vwK ((((senL b l d m hs ca (q : Int)).toNat ||| bad.toNat : Nat)) : Int) (perK sc ns rs m hs q) i).length : Nat) : Int)))), fun h23 => ?_, fun h23 => ?_⟩
                  ·replace h23 : (ftN (vwK ((((senL b l d m hs ca (q : Int)).toNat ||| bad.toNat : Nat)) : Int) (perK sc ns rs m hs q) i) m (nsL ot (Int.toNat (sc.length : Int)))) ≠ ((sc.length : Int) * ((m - 1) - (((vwK ((((senL b l d m hs ca (q : Int)).toNat ||| bad.toNat : Nat)) : Int) (perK sc ns rs m hs q) i).length : Nat) : Int))) := h23
                   exact (h23 (by rw [he.2, Int.mul_comm])).elim
                  ·replace h23 : ¬ ((ftN (vwK ((((senL b l d m hs ca (q : Int)).toNat ||| bad.toNat : Nat)) : Int) (perK sc ns rs m hs q) i) m (nsL ot (Int.toNat (sc.length : Int)))) ≠ ((sc.length : Int) * ((m - 1) - (((vwK ((((senL b l d m hs ca (q : Int)).toNat ||| bad.toNat : Nat)) : Int) (perK sc ns rs m hs q) i).length : Nat) : Int)))) := h23
                   refine ⟨(r64 ((q : Int) + 1)), ?_⟩
                   exact ⟨rfl, (if chkL b l d m hs = 0 then cntL b l d else 0).toNat - (q + 1), by omega, q + 1, by omega, rfl, rfl, rfl⟩
                 ·replace h22 : ¬ (ftP (vwK ((((senL b l d m hs ca (q : Int)).toNat ||| bad.toNat : Nat)) : Int) (perK sc ns rs m hs q) i) m (nsL ot (Int.toNat (sc.length : Int)))) := h22
                  exact (h22 he.1).elim
             ·replace h17 : (redL b l d m hs bad ca) ≠ 0 := h17
              refine ⟨(r64 ((q : Int) + 1)), ?_⟩
              exact ⟨rfl, (if chkL b l d m hs = 0 then cntL b l d else 0).toNat - (q + 1), by omega, q + 1, by omega, rfl, rfl, rfl⟩
         ·replace h8 : ¬ ((q : Int) < (if chkL b l d m hs = 0 then cntL b l d else 0)) := h8
          refine ⟨trivial, ?_⟩
          exact ⟨rfl, rfl, rfl, rfl⟩
      ·replace h5 : bad < 0 := h5
       refine ⟨trivial, ?_⟩
       exact ⟨rfl, rfl, rfl, rfl⟩
     ·replace h4 : 20 < (ca.length : Int) := h4
      refine ⟨trivial, ?_⟩
      exact ⟨rfl, rfl, rfl, rfl⟩
    ·replace h3 : 8 < (sc.length : Int) := h3
     refine ⟨trivial, ?_⟩
     exact ⟨rfl, rfl, rfl, rfl⟩
   ·replace h2 : m < 2 := h2
    refine ⟨trivial, ?_⟩
    exact ⟨rfl, rfl, rfl, rfl⟩
  ·replace h1 : ¬ (fewP b l d m hs 6) := h1
   refine ⟨trivial, ?_⟩
   exact ⟨rfl, rfl, rfl, rfl⟩
 ·replace h0 : (chkL b l d m hs) ≠ 0 := h0
  refine ⟨trivial, ?_⟩
  exact ⟨rfl, rfl, rfl, rfl⟩
end Go.Proofs.YtogipicegdbhdaaDoor.S41c

namespace Go.Proofs.YtogipicegdbhdaaDoor.S41c
open Go Go.Proofs.YtogipicegdbhdaaDoor.Vc

/-! ### how large the parts of a datum are -/
theorem wt_len {t : Ty} (h1 : ∀ x, 1 ≤ wt t x) (xs : List t.D) : xs.length + 1 ≤ wt (.sl t) xs := by
 have e : wt (.sl t) xs = (xs.map (wt t)).sum + 1 := rfl
 rw [e]
 clear e
 induction xs with
 | nil => simp
 | cons x xs ih => have := h1 x; rw [List.map_cons, List.sum_cons, List.length_cons]; omega
theorem wt_mem {t : Ty} {xs : List t.D} {x : t.D} (h : x ∈ xs) : wt t x + 1 ≤ wt (.sl t) xs := by
 have e : wt (.sl t) xs = (xs.map (wt t)).sum + 1 := rfl
 rw [e]
 clear e
 induction xs with
 | nil => cases h
 | cons y ys ih =>
  rw [List.map_cons, List.sum_cons]
  rcases List.mem_cons.1 h with rfl | h
  ·omega
  ·have := ih h; omega
theorem wt_is (xs : List Int) : xs.length + 1 ≤ wt (.sl (.int .i64)) xs := wt_len (t := .int .i64) (fun _ => Nat.le_refl 1) xs
theorem wt_s (s : List UInt8) : wt .str s = s.length + 1 := rfl
theorem wt_rs (xs : List (List UInt8)) : xs.length + 1 ≤ wt (.sl .str) xs := wt_len (t := .str) (fun x => by rw [wt_s]; omega) xs
theorem wt_rm (xs : List (List UInt8)) : ∀ s ∈ xs, s.length ≤ wt (.sl .str) xs := fun s hs => by have := wt_mem (t := .str) hs; rw [wt_s] at this; omega
theorem wt_cs (xs : List (Int × (Int × Unit))) : xs.length + 1 ≤ wt (.sl (.cons (.int .i64) (.cons (.int .i64) .nil))) xs := wt_len (t := .cons (.int .i64) (.cons (.int .i64) .nil)) (fun x => by
 have e : wt (.cons (.int .i64) (.cons (.int .i64) .nil)) x = 1 + (1 + 0) := rfl
 omega) xs
theorem wt_cal (x : Int × (Int × (Int × (Int × (List Int × Unit))))) : wt (.cons (.int .i64) (.cons (.int .i64) (.cons (.int .i64) (.cons (.int .i64) (.cons (.sl (.int .i64)) .nil))))) x = 1 + (1 + (1 + (1 + (wt (.sl (.int .i64)) x.2.2.2.2.1 + 0)))) := rfl
theorem wt_sec (x : List UInt8 × (List UInt8 × (List (List UInt8) × Unit))) : wt (.cons .str (.cons .str (.cons (.sl .str) .nil))) x = (x.1.length + 1) + ((x.2.1.length + 1) + (wt (.sl .str) x.2.2.1 + 0)) := rfl
theorem wt_spy (x : Int × (List (Int × (Int × Unit)) × (List UInt8 × Unit))) : wt (.cons (.int .i64) (.cons (.sl (.cons (.int .i64) (.cons (.int .i64) .nil))) (.cons .str .nil))) x = 1 + (wt (.sl (.cons (.int .i64) (.cons (.int .i64) .nil))) x.2.1 + ((x.2.2.1.length + 1) + 0)) := rfl
end Go.Proofs.YtogipicegdbhdaaDoor.S41c

namespace Go.Proofs.YtogipicegdbhdaaDoor.Cd
open Go Go.Proofs.YtogipicegdbhdaaDoor.Vc Go.Proofs Go.Proofs.YtogipicegdbhdaaDoor.S41 Go.Proofs.YtogipicegdbhdaaDoor.S41c Go.ChangeShapes Go.WideShapes Go.ChangeAt Go.RowKit
set_option maxRecDepth 100000
set_option linter.unusedVariables false

theorem bulkAll {H : Type} : ∀ l : List (DataW H), Rows.uptoBulkAll l = (l.map Rows.uptoBulk).sum
 | [] => rfl
 | d :: l => by rw [Rows.uptoBulkAll, bulkAll l]; rfl
theorem bulk {H : Type} : Bulk (H := H) Rows.uptoBulk where
 one d := by cases d with
  | lit l => cases l <;> simp [Rows.uptoBulk]
  | _ => simp [Rows.uptoBulk]
 str b := by simp [Rows.uptoBulk]
 sl es sp := by rw [Rows.uptoBulk, bulkAll, bulkAll]; omega
 agg ps := by rw [Rows.uptoBulk, bulkAll]; omega
theorem laidOut : laidOutB Tryd.prog = true := by kernel_rfl
theorem own : ownKnob Tryd.prog.godebug = none := by kernel_rfl

section
variable {H : Type} {enc : TypeId × Value → H} {P : Program}
theorem post_same {f : Func} {s : ChangeSpec} {apart fresh handsOn again : Bool} {W W' : World} {args : Array Value} {v : Value} {ds gs : List (DataW H)} {before pa pv : List MemPlace}
  (hW : DataW.Whole enc P f.params.toList s.vars apart W args.toList ds gs before)
  (hres : ∀ (b : Nat) (sp : Nat → Bool) (hd : Bool), DataW.TrodAll enc P W' b sp hd f.resultTypes.toList (v.resultList f.resultTypes.size) (s.fn H (ds ++ gs)).results [])
  (hargs : ∀ sp : Nat → Bool, (∀ p ∈ before, sp p.block = true) → DataW.TrodAll enc P W' 0 sp true f.params.toList args.toList (s.fn H (ds ++ gs)).args pa)
  (hvars : ∀ sp : Nat → Bool, (∀ p ∈ before, sp p.block = true) → DataW.TrodVars enc P W' sp s.vars (s.fn H (ds ++ gs)).vars pv)
  (hps : before = pa ++ pv) (hb : Below W.heap.size W W')
  (hok : ∀ (j : Nat) (t : TypeId) (r : Value), f.resultTypes[j]? = some t → (v.resultList f.resultTypes.size)[j]? = some r → Value.okWide P W' .any 0 t r) :
  s.post enc P f apart fresh handsOn again W args v W' := by
 have hlt : ∀ p ∈ before, p.block < W.heap.size := fun p hp => by simpa using hW.lt p hp
 have hold : ∀ p ∈ before, (fun b => decide (b < W.heap.size)) p.block = true := fun p hp => by simpa using hW.lt p hp
 refine ⟨ds, gs, before, [], pa, pv, hW, hres _ _ _, hargs _ hold, hvars _ hold, World.keptBut_mono (fun p hp => ⟨hp, ?_⟩) (hb.frame (· ∈ before)), fun _ => ?_⟩
 ·rw [hps, List.mem_append] at hp
  exact Or.inr hp
 ·obtain ⟨_, _, _, _, _, hz, hn⟩ := hW
  refine ⟨hok, _, _, ([] ++ pa) ++ pv, ⟨[] ++ pa, pv, trodAll_append (hargs _ (fun _ _ => rfl)) (hres _ _ _), hvars _ (fun _ _ => rfl), rfl, ?_, ?_⟩, ?_⟩
  ·intro b off hp
   have hp' : MemPlace.cell b off ∈ before := by rw [hps]; simpa using hp
   rw [hb.frozen (hlt _ hp')]
   exact hz b off hp'
  ·intro ha
   have := hn ha
   rw [hps] at this
   simpa using this
  ·intro p hp _
   rw [hps]
   simpa using hp
end
end Go.Proofs.YtogipicegdbhdaaDoor.Cd

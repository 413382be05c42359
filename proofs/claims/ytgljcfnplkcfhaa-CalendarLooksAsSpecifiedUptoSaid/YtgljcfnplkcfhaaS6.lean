/- Texts of this claim: S29.R3, S29.R4, S29.L3, S29.Cd0. -/
import Derived.Test.YtgljcfnplkcfhaaS5
import Derived.Test.YtgljcfnplkcfhaaRows
import Derived.WalkKit
import Derived.ProofKit
import Derived.OpenShut
import Derived.Deep.DeepHandedRow
import Derived.Lib.LaidTab
import Derived.Test.YtgljcfnplkcfhaaVc6
import Derived.Test.YtgljcfnplkcfhaaS0
set_option linter.unusedVariables false
set_option linter.unusedSimpArgs false
namespace Go.Proofs.Ytgljcfnplkcfhaa.S29
open Go Go.Proofs.Ytgljcfnplkcfhaa.Vc Go.Proofs
set_option maxRecDepth 100000
set_option linter.unusedVariables false

def sRWro : List V → Option (Prop × V × List Blk)
  | [.sl false (.cons (.int .i64) (.cons (.int .i64) .nil)) a] => some (a.length ≤ 2000000, .int .i64 (capL a), [])
  | _ => none
set_option maxHeartbeats 1000000 in
theorem bRWro (a : List (Int × (Int × Unit))) (hp0 : a.length ≤ 2000000) : bodyP (En CRLok tys [] QAt) Try.f82 [.k] [.sl false (.cons (.int .i64) (.cons (.int .i64) .nil)) a] (.int .i64 (capL a)) [] := by
  refine ⟨fun h0 => ?_, fun h0 => ?_⟩
  · replace h0 : 500 < (a.length : Int) := h0
    first | have e := all_bad (d := (0, (0, ()))) (by omega) hc1_1 (capB_no (by omega)) | have e := all_end (by omega) hc1_1 | skip
    refine ⟨rfl, rfl, ?_, rfl⟩
    unfold capL
    repeat' split
    all_goals first | rfl | omega | (exfalso; simp_all; done)
  · replace h0 : ¬ (500 < (a.length : Int)) := h0
    refine ⟨0, [(0, .k), (3, .k)], fun n vs H => ∃ (k : Nat), k ≤ a.length ∧ (a.drop k).all capB = a.all capB ∧ n = a.length - k ∧ vs = [.sl false (.cons (.int .i64) (.cons (.int .i64) .nil)) a, .int .i64 (k : Int)] ∧ H = [], ⟨rfl, a.length, 0, by omega, rfl, by omega, rfl, rfl⟩, ?_⟩
    rintro n vs H ⟨k, hc1_0, hc1_1, rfl, rfl, rfl⟩
    refine ⟨fun h1 => ?_, fun h1 => ?_⟩
    · replace h1 : (k : Int) < (a.length : Int) := h1
      refine ⟨⟨by show (0 : Int) ≤ (k : Int); omega, by show (k : Int) < (a.length : Int); omega⟩, fun h2 => ?_, fun h2 => ?_⟩
      · replace h2 : ¬ (((a.getD k (0, (0, ()))).1) < 0) := h2
        refine ⟨⟨by show (0 : Int) ≤ (k : Int); omega, by show (k : Int) < (a.length : Int); omega⟩, fun h3 => ?_, fun h3 => ?_⟩
        · replace h3 : ¬ (11 < ((a.getD k (0, (0, ()))).1)) := h3
          refine ⟨⟨by show (0 : Int) ≤ (k : Int); omega, by show (k : Int) < (a.length : Int); omega⟩, fun h4 => ?_, fun h4 => ?_⟩
          · replace h4 : ¬ ((((a.getD k (0, (0, ()))).2).1) < 0) := h4
            refine ⟨⟨by show (0 : Int) ≤ (k : Int); omega, by show (k : Int) < (a.length : Int); omega⟩, fun h5 => ?_, fun h5 => ?_⟩
            · replace h5 : 1000000 < (((a.getD k (0, (0, ()))).2).1) := h5
              first | have e := all_bad (d := (0, (0, ()))) (by omega) hc1_1 (capB_no (by omega)) | have e := all_end (by omega) hc1_1 | skip
              refine ⟨rfl, rfl, ?_, rfl⟩
              unfold capL
              repeat' split
              all_goals first | rfl | omega | (exfalso; simp_all; done)
            · replace h5 : ¬ (1000000 < (((a.getD k (0, (0, ()))).2).1)) := h5
              refine ⟨⟨by show (-9223372036854775808 : Int) ≤ ((k : Int) + 1); omega, by show ((k : Int) + 1) ≤ (9223372036854775807 : Int); omega⟩, ?_⟩
              exact ⟨rfl, a.length - (k + 1), by omega, k + 1, by omega, all_next (d := (0, (0, ()))) (by omega) hc1_1 (capB_yes (by omega)), rfl, rfl, rfl⟩
          · replace h4 : (((a.getD k (0, (0, ()))).2).1) < 0 := h4
            first | have e := all_bad (d := (0, (0, ()))) (by omega) hc1_1 (capB_no (by omega)) | have e := all_end (by omega) hc1_1 | skip
            refine ⟨rfl, rfl, ?_, rfl⟩
            unfold capL
            repeat' split
            all_goals first | rfl | omega | (exfalso; simp_all; done)
        · replace h3 : 11 < ((a.getD k (0, (0, ()))).1) := h3
          first | have e := all_bad (d := (0, (0, ()))) (by omega) hc1_1 (capB_no (by omega)) | have e := all_end (by omega) hc1_1 | skip
          refine ⟨rfl, rfl, ?_, rfl⟩
          unfold capL
          repeat' split
          all_goals first | rfl | omega | (exfalso; simp_all; done)
      · replace h2 : ((a.getD k (0, (0, ()))).1) < 0 := h2
        first | have e := all_bad (d := (0, (0, ()))) (by omega) hc1_1 (capB_no (by omega)) | have e := all_end (by omega) hc1_1 | skip
        refine ⟨rfl, rfl, ?_, rfl⟩
        unfold capL
        repeat' split
        all_goals first | rfl | omega | (exfalso; simp_all; done)
    · replace h1 : ¬ ((k : Int) < (a.length : Int)) := h1
      first | have e := all_bad (d := (0, (0, ()))) (by omega) hc1_1 (capB_no (by omega)) | have e := all_end (by omega) hc1_1 | skip
      refine ⟨rfl, rfl, ?_, rfl⟩
      unfold capL
      repeat' split
      all_goals first | rfl | omega | (exfalso; simp_all; done)
def CRWro : List (Nat × Con) := (82, pureC [.v (.sl (.cons (.int .i64) (.cons (.int .i64) .nil)))] sRWro) :: CRLok
theorem kRWro : Known Try.prog (En CRWro tys [] QAt) := kRLok.add Try.func82 Try.call82 [.k] fun ds p v bs h hp => by
  unfold sRWro at h
  split at h <;> simp only [Option.some.injEq, Prod.mk.injEq, reduceCtorEq] at h
  obtain ⟨rfl, rfl, rfl⟩ := h
  exact bRWro _ hp
def sRCpd : List V → Option (Prop × V × List Blk)
  | [.sl false (.cons (.int .i64) (.cons (.int .i64) .nil)) a, .int .i64 h, .int .i64 f, .int .i64 t] => some (a.length ≤ 2000000, .b (cpdB a h f t = true), [])
  | _ => none
set_option maxHeartbeats 1000000 in
theorem bRCpd (a : List (Int × (Int × Unit))) (h : Int) (f : Int) (t : Int) (hp0 : a.length ≤ 2000000) : bodyP (En CRWro tys [] QAt) Try.f83 [.k] [.sl false (.cons (.int .i64) (.cons (.int .i64) .nil)) a, .int .i64 h, .int .i64 f, .int .i64 t] (.b (cpdB a h f t = true)) [] := by
  refine ⟨0, [(0, .k), (1, .k), (2, .k), (3, .k), (9, .k)], fun n vs H => ∃ (k : Nat), k ≤ a.length ∧ ((a.take k).any (fun x => decide (x.1 = h ∧ f ≤ x.2.1 ∧ x.2.1 ≤ t)) = false) ∧ n = a.length - k ∧ vs = [.sl false (.cons (.int .i64) (.cons (.int .i64) .nil)) a, .int .i64 h, .int .i64 f, .int .i64 t, .int .i64 (k : Int)] ∧ H = [], ⟨rfl, a.length, 0, by omega, rfl, by omega, rfl, rfl⟩, ?_⟩
  rintro n vs H ⟨k, hc1_0, hc1_1, rfl, rfl, rfl⟩
  refine ⟨fun h0 => ?_, fun h0 => ?_⟩
  · replace h0 : (k : Int) < (a.length : Int) := h0
    refine ⟨⟨by show (0 : Int) ≤ (k : Int); omega, by show (k : Int) < (a.length : Int); omega⟩, fun h1 => ?_, fun h1 => ?_⟩
    · replace h1 : ((a.getD k (0, (0, ()))).1) = h := h1
      refine ⟨⟨by show (0 : Int) ≤ (k : Int); omega, by show (k : Int) < (a.length : Int); omega⟩, fun h2 => ?_, fun h2 => ?_⟩
      · replace h2 : f ≤ (((a.getD k (0, (0, ()))).2).1) := h2
        refine ⟨⟨by show (0 : Int) ≤ (k : Int); omega, by show (k : Int) < (a.length : Int); omega⟩, fun h3 => ?_, fun h3 => ?_⟩
        · replace h3 : (((a.getD k (0, (0, ()))).2).1) ≤ t := h3
          have e : cpdB a h f t = true := any_yes (d := (0, (0, ()))) (k := k) (by omega) (decide_eq_true ⟨by omega, by omega, by omega⟩)
          rw [e]
          exact ⟨rfl, rfl, rfl, rfl⟩
        · replace h3 : ¬ ((((a.getD k (0, (0, ()))).2).1) ≤ t) := h3
          refine ⟨⟨by show (-9223372036854775808 : Int) ≤ ((k : Int) + 1); omega, by show ((k : Int) + 1) ≤ (9223372036854775807 : Int); omega⟩, ?_⟩
          exact ⟨rfl, a.length - (k + 1), by omega, k + 1, by omega, any_take_no (d := (0, (0, ()))) (by omega) hc1_1 (decide_eq_false (by omega)), rfl, rfl, rfl⟩
      · replace h2 : ¬ (f ≤ (((a.getD k (0, (0, ()))).2).1)) := h2
        refine ⟨⟨by show (-9223372036854775808 : Int) ≤ ((k : Int) + 1); omega, by show ((k : Int) + 1) ≤ (9223372036854775807 : Int); omega⟩, ?_⟩
        exact ⟨rfl, a.length - (k + 1), by omega, k + 1, by omega, any_take_no (d := (0, (0, ()))) (by omega) hc1_1 (decide_eq_false (by omega)), rfl, rfl, rfl⟩
    · replace h1 : ¬ (((a.getD k (0, (0, ()))).1) = h) := h1
      refine ⟨⟨by show (-9223372036854775808 : Int) ≤ ((k : Int) + 1); omega, by show ((k : Int) + 1) ≤ (9223372036854775807 : Int); omega⟩, ?_⟩
      exact ⟨rfl, a.length - (k + 1), by omega, k + 1, by omega, any_take_no (d := (0, (0, ()))) (by omega) hc1_1 (decide_eq_false (by omega)), rfl, rfl, rfl⟩
  · replace h0 : ¬ ((k : Int) < (a.length : Int)) := h0
    have e : cpdB a h f t = false := by rw [← hc1_1, List.take_of_length_le (by omega)]; rfl
    rw [e]
    exact ⟨rfl, rfl, rfl, rfl⟩
def CRCpd : List (Nat × Con) := (83, pureC [.v (.sl (.cons (.int .i64) (.cons (.int .i64) .nil))), .v (.int .i64), .v (.int .i64), .v (.int .i64)] sRCpd) :: CRWro
theorem kRCpd : Known Try.prog (En CRCpd tys [] QAt) := kRWro.add Try.func83 Try.call83 [.k] fun ds p v bs h hp => by
  unfold sRCpd at h
  split at h <;> simp only [Option.some.injEq, Prod.mk.injEq, reduceCtorEq] at h
  obtain ⟨rfl, rfl, rfl⟩ := h
  exact bRCpd _ _ _ _ hp
def sRBit : List V → Option (Prop × V × List Blk)
  | [.int .i64 h] => some (0 ≤ h ∧ h ≤ 11, .int .i64 (pwN h.toNat), [])
  | _ => none
set_option maxHeartbeats 1000000 in
theorem bRBit (h : Int) (hp0 : 0 ≤ h) (hp1 : h ≤ 11) : bodyP (En CRCpd tys [] QAt) Try.f84 [.k] [.int .i64 h] (.int .i64 (pwN h.toNat)) [] := by
  refine ⟨0, [(0, .k), (3, .k), (4, .k)], fun n vs H => ∃ (k : Nat), k ≤ h.toNat ∧ n = h.toNat - k ∧ vs = [.int .i64 h, .int .i64 (pwN k), .int .i64 (k : Int)] ∧ H = [], ⟨rfl, h.toNat, 0, by omega, by omega, rfl, rfl⟩, ?_⟩
  rintro n vs H ⟨k, hc1_0, rfl, rfl, rfl⟩
  have hpw := pwN_bd k (by omega)
  refine ⟨fun h0 => ?_, fun h0 => ?_⟩
  · replace h0 : (k : Int) < h := h0
    refine ⟨⟨by show (-9223372036854775808 : Int) ≤ (2 * (pwN k)); omega, by show (2 * (pwN k)) ≤ (9223372036854775807 : Int); omega⟩, ⟨by show (-9223372036854775808 : Int) ≤ ((k : Int) + 1); omega, by show ((k : Int) + 1) ≤ (9223372036854775807 : Int); omega⟩, ?_⟩
    exact ⟨rfl, h.toNat - (k + 1), by omega, k + 1, by omega, rfl, by rw [← pwN_succ]; rfl, rfl⟩
  · replace h0 : ¬ ((k : Int) < h) := h0
    obtain rfl : k = h.toNat := by omega
    exact ⟨rfl, rfl, rfl, rfl⟩
def CRBit : List (Nat × Con) := (84, pureC [.v (.int .i64)] sRBit) :: CRCpd
theorem kRBit : Known Try.prog (En CRBit tys [] QAt) := kRCpd.add Try.func84 Try.call84 [.k] fun ds p v bs h hp => by
  unfold sRBit at h
  split at h <;> simp only [Option.some.injEq, Prod.mk.injEq, reduceCtorEq] at h
  obtain ⟨rfl, rfl, rfl⟩ := h
  exact bRBit _ hp.1 hp.2
def sRSeen : List V → Option (Prop × V × List Blk)
  | [.agg [.int .i64 b, .int .i64 l, .int .i64 d, .int .i64 m, .sl false (.int .i64) hs], .sl false (.cons (.int .i64) (.cons (.int .i64) .nil)) a, .int .i64 q] => some (hs.length ≤ 2000000 ∧ a.length ≤ 2000000, .agg [.int .i64 (senL b l d m hs a q), .int .i64 (senE b l d m hs a q)], [])
  | _ => none
set_option maxHeartbeats 1000000 in
theorem bRSeen (b : Int) (l : Int) (d : Int) (m : Int) (hs : List Int) (a : List (Int × (Int × Unit))) (q : Int) (hp0 : hs.length ≤ 2000000) (hp1 : a.length ≤ 2000000) : bodyP (En CRBit tys [] QAt) Try.f32 [.k, .k] [.agg [.int .i64 b, .int .i64 l, .int .i64 d, .int .i64 m, .sl false (.int .i64) hs], .sl false (.cons (.int .i64) (.cons (.int .i64) .nil)) a, .int .i64 q] (.agg [.int .i64 (senL b l d m hs a q), .int .i64 (senE b l d m hs a q)]) [] := by
  refine ⟨rfl, rfl, rfl, rfl, by show hs.length ≤ 2000000; first | omega | assumption, fun h0 => ?_, fun h0 => ?_⟩
  · replace h0 : (chkL b l d m hs) = 0 := h0
    refine ⟨by show a.length ≤ 2000000; first | omega | assumption, fun h1 => ?_, fun h1 => ?_⟩
    · replace h1 : (capL a) ≠ 0 := h1
      refine ⟨⟨rfl, rfl, rfl, Nat.le_of_ble_eq_true rfl⟩, ?_⟩
      rw [show senL b l d m hs a q = 0 from if_neg (fun h => h1 h.2.1), show senE b l d m hs a q = capL a by unfold senE; rw [if_pos h0, if_neg h1]]
      exact ⟨rfl, rfl, rfl, rfl⟩
    · replace h1 : ¬ ((capL a) ≠ 0) := h1
      refine ⟨rfl, rfl, rfl, rfl, rfl, by show hs.length ≤ 2000000; first | omega | assumption, ⟨rfl, rfl, rfl, Nat.le_of_ble_eq_true rfl⟩, fun h2 => ?_, fun h2 => ?_⟩
      · replace h2 : (askL b l d m hs q) ≠ 0 := h2
        refine ⟨⟨rfl, rfl, rfl, Nat.le_of_ble_eq_true rfl⟩, ?_⟩
        rw [show senL b l d m hs a q = 0 from if_neg (fun h => h2 h.2.2), show senE b l d m hs a q = askL b l d m hs q by unfold senE; rw [if_pos h0, if_pos (Classical.not_not.1 h1)]]
        exact ⟨rfl, rfl, rfl, rfl⟩
      · replace h2 : ¬ ((askL b l d m hs q) ≠ 0) := h2
        obtain ⟨hc, hq0, hq1⟩ := ask0 (Classical.not_not.1 h2)
        obtain ⟨q1, q2, q3, q4, q5, q6, q7, q8, q9, q10, q11⟩ := id hc
        have ea := (Classical.not_not.1 h2)
        refine ⟨3, [(1, .k), (3, .k), (6, .k), (8, .k), (9, .k), (10, .k)], fun n vs H => ∃ (k : Nat), k ≤ hs.length ∧ n = hs.length - k ∧ vs = [.sl false (.cons (.int .i64) (.cons (.int .i64) .nil)) a, .ptr 0 1 0 0, .ptr 1 1 0 0, .ptr 2 1 0 0, .int .i64 (setS (fun h => cpdB a (h : Int) (expF b d q) (expT b l d q)) (hs.take k)), .int .i64 (k : Int)] ∧ H = [.cells [.int .i64 b, .int .i64 l, .int .i64 d, .int .i64 m, .sl false (.int .i64) hs], .cells [.int .i64 0, .int .i64 0], .cells [.int .i64 (if askL b l d m hs q = 0 then expF b d q else 0), .int .i64 (if askL b l d m hs q = 0 then expT b l d q else 0), .int .i64 (askL b l d m hs q)]], ⟨rfl, hs.length, 0, by omega, by omega, rfl, rfl⟩, ?_⟩
        rintro n vs H ⟨k, hc1_0, rfl, rfl, rfl⟩
        refine ⟨fun h3 => ?_, fun h3 => ?_⟩
        · replace h3 : (k : Int) < (hs.length : Int) := h3
          have hkl : k < hs.length := by omega
          obtain ⟨g1, g2⟩ := hsF_at hs _ k q8 hkl
          have hpw := pwN_bd11 (hs.getD k 0).toNat (by omega)
          have hsb := setS_bd (fun h => cpdB a (h : Int) (expF b d q) (expT b l d q)) (hs.take k) (fun x hx => (hsF_all hs _ q8 x (List.mem_of_mem_take hx)).2)
          rw [List.length_take] at hsb
          have e := setS_snoc (fun h => cpdB a (h : Int) (expF b d q) (expT b l d q)) (l := hs) (k := k) hkl
          have eg : (((hs.getD k 0).toNat : Nat) : Int) = hs.getD k 0 := by omega
          refine ⟨by kernel_rfl, ⟨by show (0 : Int) ≤ (k : Int); omega, by show (k : Int) < (hs.length : Int); omega⟩, rfl, rfl, rfl, by show a.length ≤ 2000000; first | omega | assumption, fun h4 => ?_, fun h4 => ?_⟩
          · replace h4 : cpdB a (hs.getD k 0) (if askL b l d m hs q = 0 then expF b d q else 0) (if askL b l d m hs q = 0 then expT b l d q else 0) = true := h4
            rw [if_pos ea, if_pos ea] at h4
            rw [if_pos (by rw [← h4, eg])] at e
            refine ⟨⟨by show (0 : Int) ≤ (k : Int); omega, by show (k : Int) < (hs.length : Int); omega⟩, rfl, ⟨by show 0 ≤ (hs.getD k 0); first | omega | assumption, by show (hs.getD k 0) ≤ 11; first | omega | assumption⟩, ⟨by show (-9223372036854775808 : Int) ≤ ((setS (fun h => cpdB a (h : Int) (expF b d q) (expT b l d q)) (hs.take k)) + (pwN (hs.getD k 0).toNat)); omega, by show ((setS (fun h => cpdB a (h : Int) (expF b d q) (expT b l d q)) (hs.take k)) + (pwN (hs.getD k 0).toNat)) ≤ (9223372036854775807 : Int); omega⟩, ⟨by show (-9223372036854775808 : Int) ≤ ((k : Int) + 1); omega, by show ((k : Int) + 1) ≤ (9223372036854775807 : Int); omega⟩, ?_⟩
            exact ⟨rfl, hs.length - (k + 1), by omega, k + 1, by omega, rfl, by rw [e]; rfl, rfl⟩
          · replace h4 : ¬ (cpdB a (hs.getD k 0) (if askL b l d m hs q = 0 then expF b d q else 0) (if askL b l d m hs q = 0 then expT b l d q else 0) = true) := h4
            rw [if_pos ea, if_pos ea] at h4
            rw [if_neg (by intro g; apply h4; rw [← g, eg]), Int.add_zero] at e
            refine ⟨⟨by show (-9223372036854775808 : Int) ≤ ((k : Int) + 1); omega, by show ((k : Int) + 1) ≤ (9223372036854775807 : Int); omega⟩, ?_⟩
            exact ⟨rfl, hs.length - (k + 1), by omega, k + 1, by omega, rfl, by rw [e]; rfl, rfl⟩
        · replace h3 : ¬ ((k : Int) < (hs.length : Int)) := h3
          refine ⟨⟨rfl, rfl, rfl, Nat.le_of_ble_eq_true rfl⟩, ?_⟩
          obtain rfl : k = hs.length := by omega
          rw [show senL b l d m hs a q = setS (fun h => cpdB a (h : Int) (expF b d q) (expT b l d q)) (hs.take hs.length) by unfold senL; rw [if_pos ⟨h0, (Classical.not_not.1 h1), ea⟩, List.take_length, sen_set' hc a hq0], show senE b l d m hs a q = 0 by unfold senE; rw [if_pos h0, if_pos (Classical.not_not.1 h1)]; exact ea]
          exact ⟨rfl, rfl, rfl, rfl⟩
  · replace h0 : ¬ ((chkL b l d m hs) = 0) := h0
    refine ⟨fun h5 => ?_, fun h5 => absurd (show (chkL b l d m hs) ≠ 0 by first | omega | assumption | simp_all) h5⟩
    refine ⟨⟨rfl, rfl, rfl, Nat.le_of_ble_eq_true rfl⟩, ?_⟩
    rw [show senL b l d m hs a q = 0 from if_neg (fun h => h0 h.1), show senE b l d m hs a q = chkL b l d m hs from if_neg h0]
    exact ⟨rfl, rfl, rfl, rfl⟩
def CRSeen : List (Nat × Con) := (32, pureC [.v (.cons (.int .i64) (.cons (.int .i64) (.cons (.int .i64) (.cons (.int .i64) (.cons (.sl (.int .i64)) .nil))))), .v (.sl (.cons (.int .i64) (.cons (.int .i64) .nil))), .v (.int .i64)] sRSeen) :: CRBit
theorem kRSeen : Known Try.prog (En CRSeen tys [] QAt) := kRBit.add Try.func32 Try.call32 [.k, .k] fun ds p v bs h hp => by
  unfold sRSeen at h
  split at h <;> simp only [Option.some.injEq, Prod.mk.injEq, reduceCtorEq] at h
  obtain ⟨rfl, rfl, rfl⟩ := h
  exact bRSeen _ _ _ _ _ _ _ hp.1 hp.2
def sRMany : List V → Option (Prop × V × List Blk)
  | [.agg [.int .i64 b, .int .i64 l, .int .i64 d, .int .i64 m, .sl false (.int .i64) hs], .int .i64 x, .int .i64 y] => some (Cal b l d m hs ∧ 0 ≤ x ∧ 0 ≤ y, .int .i64 (cntS (fun h => bitB x h || bitB y h) hs : Int), [])
  | _ => none
set_option maxHeartbeats 1000000 in
theorem bRMany (b : Int) (l : Int) (d : Int) (m : Int) (hs : List Int) (x : Int) (y : Int) (hp0 : Cal b l d m hs) (hp1 : 0 ≤ x) (hp2 : 0 ≤ y) : bodyP (En CRSeen tys [] QAt) Try.f87 [.k] [.agg [.int .i64 b, .int .i64 l, .int .i64 d, .int .i64 m, .sl false (.int .i64) hs], .int .i64 x, .int .i64 y] (.int .i64 (cntS (fun h => bitB x h || bitB y h) hs : Int)) [] := by
  obtain ⟨q1, q2, q3, q4, q5, q6, q7, q8, q9, q10, q11⟩ := id hp0
  refine ⟨1, [(1, .k), (2, .k), (3, .k), (7, .k), (8, .k)], fun n vs H => ∃ (k : Nat), k ≤ hs.length ∧ n = hs.length - k ∧ vs = [.int .i64 x, .int .i64 y, .ptr 0 1 0 0, .int .i64 (cntS (fun h => bitB x h || bitB y h) (hs.take k) : Int), .int .i64 (k : Int)] ∧ H = [.cells [.int .i64 b, .int .i64 l, .int .i64 d, .int .i64 m, .sl false (.int .i64) hs]], ⟨rfl, hs.length, 0, by omega, by omega, rfl, rfl⟩, ?_⟩
  rintro n vs H ⟨k, hc1_0, rfl, rfl, rfl⟩
  refine ⟨fun h0 => ?_, fun h0 => ?_⟩
  · replace h0 : (k : Int) < (hs.length : Int) := h0
    have hkl : k < hs.length := by omega
    obtain ⟨g1, g2⟩ := hsF_at hs _ k q8 hkl
    have hle := cntS_le (fun h => bitB x h || bitB y h) (hs.take k)
    rw [List.length_take] at hle
    have e := cntS_snoc (fun h => bitB x h || bitB y h) (l := hs) (k := k) hkl
    refine ⟨⟨by show (0 : Int) ≤ (k : Int); omega, by show (k : Int) < (hs.length : Int); omega⟩, rfl, rfl, ⟨by show 0 ≤ x; first | omega | assumption, by show 0 ≤ (hs.getD k 0); first | omega | assumption, by show (hs.getD k 0) ≤ 64; first | omega | assumption⟩, ⟨by show (0 : Int) ≤ (k : Int); omega, by show (k : Int) < (hs.length : Int); omega⟩, rfl, rfl, ⟨by show 0 ≤ y; first | omega | assumption, by show 0 ≤ (hs.getD k 0); first | omega | assumption, by show (hs.getD k 0) ≤ 64; first | omega | assumption⟩, fun h1 => ?_, fun h1 => ?_⟩
    · replace h1 : ¬ (bitB x (hs.getD k 0).toNat = true) := h1
      refine ⟨fun h2 => ?_, fun h2 => ?_⟩
      · replace h2 : bitB y (hs.getD k 0).toNat = true := h2
        refine ⟨⟨by show (-9223372036854775808 : Int) ≤ ((cntS (fun h => bitB x h || bitB y h) (hs.take k) : Int) + 1); omega, by show ((cntS (fun h => bitB x h || bitB y h) (hs.take k) : Int) + 1) ≤ (9223372036854775807 : Int); omega⟩, ⟨by show (-9223372036854775808 : Int) ≤ ((k : Int) + 1); omega, by show ((k : Int) + 1) ≤ (9223372036854775807 : Int); omega⟩, ?_⟩
        first | rw [if_pos (by rw [h1]; rfl)] at e | rw [if_pos (by rw [h2, Bool.or_true])] at e | (rw [Bool.not_eq_true] at h1 h2; rw [h1, h2, if_neg (by decide)] at e)
        exact ⟨rfl, hs.length - (k + 1), by omega, k + 1, by omega, rfl, by rw [e]; rfl, rfl⟩
      · replace h2 : ¬ (bitB y (hs.getD k 0).toNat = true) := h2
        refine ⟨⟨by show (-9223372036854775808 : Int) ≤ ((k : Int) + 1); omega, by show ((k : Int) + 1) ≤ (9223372036854775807 : Int); omega⟩, ?_⟩
        first | rw [if_pos (by rw [h1]; rfl)] at e | rw [if_pos (by rw [h2, Bool.or_true])] at e | (rw [Bool.not_eq_true] at h1 h2; rw [h1, h2, if_neg (by decide)] at e)
        exact ⟨rfl, hs.length - (k + 1), by omega, k + 1, by omega, rfl, by rw [e]; rfl, rfl⟩
    · replace h1 : bitB x (hs.getD k 0).toNat = true := h1
      refine ⟨⟨by show (-9223372036854775808 : Int) ≤ ((cntS (fun h => bitB x h || bitB y h) (hs.take k) : Int) + 1); omega, by show ((cntS (fun h => bitB x h || bitB y h) (hs.take k) : Int) + 1) ≤ (9223372036854775807 : Int); omega⟩, ⟨by show (-9223372036854775808 : Int) ≤ ((k : Int) + 1); omega, by show ((k : Int) + 1) ≤ (9223372036854775807 : Int); omega⟩, ?_⟩
      first | rw [if_pos (by rw [h1]; rfl)] at e | rw [if_pos (by rw [h2, Bool.or_true])] at e | (rw [Bool.not_eq_true] at h1 h2; rw [h1, h2, if_neg (by decide)] at e)
      exact ⟨rfl, hs.length - (k + 1), by omega, k + 1, by omega, rfl, by rw [e]; rfl, rfl⟩
  · replace h0 : ¬ ((k : Int) < (hs.length : Int)) := h0
    obtain rfl : k = hs.length := by omega
    rw [List.take_length]
    exact ⟨rfl, rfl, rfl, rfl⟩
def CRMany : List (Nat × Con) := (87, pureC [.v (.cons (.int .i64) (.cons (.int .i64) (.cons (.int .i64) (.cons (.int .i64) (.cons (.sl (.int .i64)) .nil))))), .v (.int .i64), .v (.int .i64)] sRMany) :: CRSeen
theorem kRMany : Known Try.prog (En CRMany tys [] QAt) := kRSeen.add Try.func87 Try.call87 [.k] fun ds p v bs h hp => by
  unfold sRMany at h
  split at h <;> simp only [Option.some.injEq, Prod.mk.injEq, reduceCtorEq] at h
  obtain ⟨rfl, rfl, rfl⟩ := h
  exact bRMany _ _ _ _ _ _ _ hp.1 hp.2.1 hp.2.2
def sRTel : List V → Option (Prop × V × List Blk)
  | [.agg [.int .i64 b, .int .i64 l, .int .i64 d, .int .i64 m, .sl false (.int .i64) hs], .int .i64 bad, .sl false (.cons (.int .i64) (.cons (.int .i64) .nil)) a] => some (hs.length ≤ 2000000 ∧ a.length ≤ 2000000, .agg [.own (.int .i64) 0, .int .i64 (redL b l d m hs bad a)], [.row true (.int .i64) (telL b l d m hs bad a)])
  | _ => none
set_option maxHeartbeats 1000000 in
theorem bRTel (b : Int) (l : Int) (d : Int) (m : Int) (hs : List Int) (bad : Int) (a : List (Int × (Int × Unit))) (hp0 : hs.length ≤ 2000000) (hp1 : a.length ≤ 2000000) : bodyP (En CRMany tys [] QAt) Try.f34 [.o (.int .i64), .k] [.agg [.int .i64 b, .int .i64 l, .int .i64 d, .int .i64 m, .sl false (.int .i64) hs], .int .i64 bad, .sl false (.cons (.int .i64) (.cons (.int .i64) .nil)) a] (.agg [.own (.int .i64) 0, .int .i64 (redL b l d m hs bad a)]) [.row true (.int .i64) (telL b l d m hs bad a)] := by
  refine ⟨rfl, rfl, rfl, rfl, by show hs.length ≤ 2000000; first | omega | assumption, fun h0 => ?_, fun h0 => ?_⟩
  · replace h0 : (chkL b l d m hs) ≠ 0 := h0
    refine ⟨⟨rfl, rfl, rfl, Nat.le_of_ble_eq_true rfl⟩, ?_⟩
    have e : redL b l d m hs bad a = chkL b l d m hs := if_neg h0
    rw [show telL b l d m hs bad a = [] from if_neg (by rw [e]; exact h0), e]
    exact ⟨rfl, rfl, rfl, rfl⟩
  · replace h0 : ¬ ((chkL b l d m hs) ≠ 0) := h0
    refine ⟨fun h1 => ?_, fun h1 => ?_⟩
    · replace h1 : ¬ (bad < 0) := h1
      refine ⟨fun h2 => ?_, fun h2 => ?_⟩
      · replace h2 : 4095 < bad := h2
        refine ⟨⟨rfl, rfl, rfl, Nat.le_of_ble_eq_true rfl⟩, ?_⟩
        have e : redL b l d m hs bad a = 1 := by unfold redL; rw [if_pos (Classical.not_not.1 h0), if_neg (by omega)]
        rw [show telL b l d m hs bad a = [] from if_neg (by rw [e]; decide), e]
        exact ⟨rfl, rfl, rfl, rfl⟩
      · replace h2 : ¬ (4095 < bad) := h2
        refine ⟨by show a.length ≤ 2000000; first | omega | assumption, fun h3 => ?_, fun h3 => ?_⟩
        · replace h3 : (capL a) ≠ 0 := h3
          refine ⟨⟨rfl, rfl, rfl, Nat.le_of_ble_eq_true rfl⟩, ?_⟩
          have e : redL b l d m hs bad a = capL a := by unfold redL; rw [if_pos (Classical.not_not.1 h0), if_pos ⟨by omega, by omega⟩]
          rw [show telL b l d m hs bad a = [] from if_neg (by rw [e]; exact h3), e]
          exact ⟨rfl, rfl, rfl, rfl⟩
        · replace h3 : ¬ ((capL a) ≠ 0) := h3
          have hr : redL b l d m hs bad a = 0 := by unfold redL; rw [if_pos (Classical.not_not.1 h0), if_pos ⟨by omega, by omega⟩]; exact (Classical.not_not.1 h3)
          obtain ⟨hc, hb0, hb1, hca1, hca2⟩ := red0 hr
          obtain ⟨q1, q2, q3, q4, q5, q6, q7, q8, q9, q10, q11⟩ := id hc
          obtain ⟨N, hN⟩ : ∃ N : Nat, cntL b l d = (N : Int) := ⟨(cntL b l d).toNat, by omega⟩
          refine ⟨rfl, rfl, rfl, rfl, ⟨by show 0 ≤ b; first | omega | assumption, by show b ≤ l; first | omega | assumption, by show l ≤ 1000000; first | omega | assumption, by show 1 ≤ d; first | omega | assumption⟩, 2, [(1, .k), (2, .k), (3, .k), (6, .k), (8, .o (.int .i64)), (9, .k), (10, .k)], fun n vs H => ∃ (k : Nat), k ≤ N ∧ n = N - k ∧ vs = [.int .i64 bad, .sl false (.cons (.int .i64) (.cons (.int .i64) .nil)) a, .ptr 0 1 0 0, .ptr 1 1 0 0, .own (.int .i64) 2, .int .i64 (cntL b l d), .int .i64 (k : Int)] ∧ H = [.cells [.int .i64 b, .int .i64 l, .int .i64 d, .int .i64 m, .sl false (.int .i64) hs], .cells [.nils, .int .i64 0], .row true (.int .i64) (telG b l d m hs bad a k)], ⟨rfl, N, 0, by omega, by omega, rfl, rfl⟩, ?_⟩
          rintro n vs H ⟨k, hc1_0, rfl, rfl, rfl⟩
          refine ⟨fun h4 => ?_, fun h4 => ?_⟩
          · replace h4 : (k : Int) < (cntL b l d) := h4
            have htl := telG_len b l d m hs bad a k
            have hsv := sen_val hc (Classical.not_not.1 h3) (k := k) (by omega)
            have hmn := tel_many hc bad a k hsv
            refine ⟨rfl, rfl, rfl, rfl, rfl, ⟨by show hs.length ≤ 2000000; first | omega | assumption, by show a.length ≤ 2000000; first | omega | assumption⟩, ⟨rfl, rfl, rfl, Nat.le_of_ble_eq_true rfl⟩, rfl, rfl, rfl, rfl, rfl, rfl, ⟨by exact hc, by show 0 ≤ bad; first | omega | assumption, by exact sen_nonneg ..⟩, fun h5 => ?_, fun h5 => ?_⟩
            · replace h5 : m ≤ (cntS (fun h => bitB bad h || bitB (senL b l d m hs a (k : Int)) h) hs : Int) := h5
              rw [hmn] at h5
              have tp : telP b l d m hs bad a k = true := decide_eq_true h5
              refine ⟨rfl, ⟨rfl, rfl⟩, by show (telG b l d m hs bad a k).length + ([(k : Int)] : List Int).length ≤ 1000000000; simp only [List.length_cons, List.length_nil]; omega, ⟨by show (-9223372036854775808 : Int) ≤ ((k : Int) + 1); omega, by show ((k : Int) + 1) ≤ (9223372036854775807 : Int); omega⟩, ?_⟩
              first | exact ⟨rfl, N - (k + 1), by omega, k + 1, by omega, rfl, rfl, by rw [telG_succ, if_pos tp]; rfl⟩ | exact ⟨rfl, N - (k + 1), by omega, k + 1, by omega, rfl, rfl, by rw [telG_succ, if_neg tp, List.append_nil]; rfl⟩
            · replace h5 : ¬ (m ≤ (cntS (fun h => bitB bad h || bitB (senL b l d m hs a (k : Int)) h) hs : Int)) := h5
              rw [hmn] at h5
              have tp : ¬ telP b l d m hs bad a k = true := by unfold telP; rw [decide_eq_true_eq]; exact h5
              refine ⟨⟨by show (-9223372036854775808 : Int) ≤ ((k : Int) + 1); omega, by show ((k : Int) + 1) ≤ (9223372036854775807 : Int); omega⟩, ?_⟩
              first | exact ⟨rfl, N - (k + 1), by omega, k + 1, by omega, rfl, rfl, by rw [telG_succ, if_pos tp]; rfl⟩ | exact ⟨rfl, N - (k + 1), by omega, k + 1, by omega, rfl, rfl, by rw [telG_succ, if_neg tp, List.append_nil]; rfl⟩
          · replace h4 : ¬ ((k : Int) < (cntL b l d)) := h4
            refine ⟨⟨rfl, rfl, rfl, Nat.le_of_ble_eq_true rfl⟩, ?_⟩
            rw [show telL b l d m hs bad a = telG b l d m hs bad a k by rw [telL, if_pos hr, show (cntL b l d).toNat = k by omega], hr]
            exact ⟨rfl, rfl, rfl, rfl⟩
    · replace h1 : bad < 0 := h1
      refine ⟨⟨rfl, rfl, rfl, Nat.le_of_ble_eq_true rfl⟩, ?_⟩
      have e : redL b l d m hs bad a = 1 := by unfold redL; rw [if_pos (Classical.not_not.1 h0), if_neg (by omega)]
      rw [show telL b l d m hs bad a = [] from if_neg (by rw [e]; decide), e]
      exact ⟨rfl, rfl, rfl, rfl⟩
def CRTel : List (Nat × Con) := (34, pureC [.v (.cons (.int .i64) (.cons (.int .i64) (.cons (.int .i64) (.cons (.int .i64) (.cons (.sl (.int .i64)) .nil))))), .v (.int .i64), .v (.sl (.cons (.int .i64) (.cons (.int .i64) .nil)))] sRTel) :: CRMany
theorem kRTel : Known Try.prog (En CRTel tys [] QAt) := kRMany.add Try.func34 Try.call34 [.o (.int .i64), .k] fun ds p v bs h hp => by
  unfold sRTel at h
  split at h <;> simp only [Option.some.injEq, Prod.mk.injEq, reduceCtorEq] at h
  obtain ⟨rfl, rfl, rfl⟩ := h
  exact bRTel _ _ _ _ _ _ _ hp.1 hp.2
end Go.Proofs.Ytgljcfnplkcfhaa.S29

namespace Go.Proofs.Ytgljcfnplkcfhaa.S29
open Go Go.Proofs.Ytgljcfnplkcfhaa.Vc Go.Proofs
set_option maxRecDepth 100000
set_option linter.unusedVariables false

def sRSaf : List V → Option (Prop × V × List Blk)
  | [.agg [.int .i64 b, .int .i64 l, .int .i64 d, .int .i64 m, .sl false (.int .i64) hs], .int .i64 bad, .int .i64 w, .int .i64 mo] => some (hs.length ≤ 2000000, .agg [.b (safL b l d m hs bad w mo = true), .int .i64 (safE b l d m hs bad w mo)], [])
  | _ => none
set_option maxHeartbeats 2000000 in
theorem bRSaf (b : Int) (l : Int) (d : Int) (m : Int) (hs : List Int) (bad : Int) (w : Int) (mo : Int) (hp0 : hs.length ≤ 2000000) : bodyP (En CRTel tys [] QAt) Try.f41 [.k, .k] [.agg [.int .i64 b, .int .i64 l, .int .i64 d, .int .i64 m, .sl false (.int .i64) hs], .int .i64 bad, .int .i64 w, .int .i64 mo] (.agg [.b (safL b l d m hs bad w mo = true), .int .i64 (safE b l d m hs bad w mo)]) [] := by
  refine ⟨rfl, rfl, rfl, rfl, by show hs.length ≤ 2000000; first | omega | assumption, fun h0 => ?_, fun h0 => ?_⟩
  · replace h0 : (chkL b l d m hs) ≠ 0 := h0
    refine ⟨⟨rfl, rfl, rfl, Nat.le_of_ble_eq_true rfl⟩, ?_⟩
    have e1 : safE b l d m hs bad w mo = chkL b l d m hs := by unfold safE redL; rw [if_neg h0, if_neg h0]
    have e3 : (safL b l d m hs bad w mo = true) = False := propext ⟨fun h => (by rw [safL, decide_eq_false (by rw [e1]; exact h0), Bool.false_and] at h; cases h), fun h => h.elim⟩
    rw [e1, e3]
    exact ⟨rfl, rfl, rfl, rfl⟩
  · replace h0 : ¬ ((chkL b l d m hs) ≠ 0) := h0
    have hc := chk0 (Classical.not_not.1 h0)
    obtain ⟨q1, q2, q3, q4, q5, q6, q7, q8, q9, q10, q11⟩ := id hc
    have hkm := knw_many hc bad
    have hkl : (knwL b l d hs bad : Int) ≤ (hs.length : Int) := by have := knw_le hc bad; omega
    refine ⟨fun h1 => ?_, fun h1 => ?_⟩
    · replace h1 : ¬ (bad < 0) := h1
      refine ⟨fun h2 => ?_, fun h2 => ?_⟩
      · replace h2 : 4095 < bad := h2
        refine ⟨⟨rfl, rfl, rfl, Nat.le_of_ble_eq_true rfl⟩, ?_⟩
        have e1 : safE b l d m hs bad w mo = 1 := by have hr : redL b l d m hs bad [] = 1 := by { unfold redL; rw [if_pos (Classical.not_not.1 h0), if_neg (by omega)] }; unfold safE; rw [if_neg (by rw [hr]; decide)]; exact hr
        have e3 : (safL b l d m hs bad w mo = true) = False := propext ⟨fun h => (by rw [safL, decide_eq_false (by rw [e1]; first | exact h0 | decide), Bool.false_and] at h; cases h), fun h => h.elim⟩
        rw [e1, e3]
        exact ⟨rfl, rfl, rfl, rfl⟩
      · replace h2 : ¬ (4095 < bad) := h2
        refine ⟨fun h3 => ?_, fun h3 => ?_⟩
        · replace h3 : ¬ (w < 1) := h3
          refine ⟨fun h4 => ?_, fun h4 => ?_⟩
          · replace h4 : ¬ (1000000 < w) := h4
            refine ⟨fun h5 => ?_, fun h5 => ?_⟩
            · replace h5 : ¬ (mo < 0) := h5
              refine ⟨fun h6 => ?_, fun h6 => ?_⟩
              · replace h6 : 12 < mo := h6
                refine ⟨⟨rfl, rfl, rfl, Nat.le_of_ble_eq_true rfl⟩, ?_⟩
                have e1 : safE b l d m hs bad w mo = 3 := by have hr : redL b l d m hs bad [] = 0 := by { unfold redL; rw [if_pos (Classical.not_not.1 h0), if_pos ⟨by omega, by omega⟩]; rfl }; unfold safE; rw [if_pos hr, if_neg (by omega)]
                have e3 : (safL b l d m hs bad w mo = true) = False := propext ⟨fun h => (by rw [safL, decide_eq_false (by rw [e1]; first | exact h0 | decide), Bool.false_and] at h; cases h), fun h => h.elim⟩
                rw [e1, e3]
                exact ⟨rfl, rfl, rfl, rfl⟩
              · replace h6 : ¬ (12 < mo) := h6
                have hr : redL b l d m hs bad [] = 0 := by unfold redL; rw [if_pos (Classical.not_not.1 h0), if_pos ⟨by omega, by omega⟩]; rfl
                have e0 : safE b l d m hs bad w mo = 0 := by unfold safE; rw [if_pos hr, if_pos ⟨by omega, by omega, by omega, by omega⟩]
                refine ⟨rfl, rfl, rfl, rfl, ⟨by show 0 ≤ b; first | omega | assumption, by show b ≤ l; first | omega | assumption, by show l ≤ 1000000; first | omega | assumption, by show 1 ≤ d; first | omega | assumption⟩, rfl, rfl, rfl, rfl, rfl, rfl, ⟨by exact hc, by show 0 ≤ bad; first | omega | assumption, by omega⟩, 2, [(2, .k), (3, .k), (4, .k), (8, .k), (10, .k), (11, .k), (12, .k)], fun n vs H => ∃ (k : Nat), (k : Int) ≤ cntL b l d ∧ (List.range k).all (safQ b l d m hs bad w mo) = true ∧ n = (cntL b l d).toNat - k ∧ vs = [.int .i64 w, .int .i64 mo, .ptr 0 1 0 0, .ptr 1 1 0 0, .int .i64 (cntL b l d), .int .i64 (cntS (fun h => bitB bad h || bitB 0 h) hs : Int), .int .i64 (k : Int)] ∧ H = [.cells [.int .i64 b, .int .i64 l, .int .i64 d, .int .i64 m, .sl false (.int .i64) hs], .cells [.b False, .int .i64 0]], ⟨rfl, (cntL b l d).toNat, 0, by omega, rfl, by omega, rfl, rfl⟩, ?_⟩
                rintro n vs H ⟨k, hc1_0, hc1_1, rfl, rfl, rfl⟩
                refine ⟨fun h7 => ?_, fun h7 => ?_⟩
                · replace h7 : (k : Int) < (cntL b l d) := h7
                  have ea : askL b l d m hs (k : Int) = 0 := hc.ask (by omega) h7
                  obtain ⟨w1, w2, w3, w4, w5, w6, w7⟩ := win_ok (w := w) (mo := mo) hc (by omega) (by omega) (by omega) h7
                  have hA : (cntS (fun h => bitB bad h || bitB 0 h) hs : Int) = min (hs.length : Int) ((knwL b l d hs bad : Int) + mo * ((0 : Nat) : Int)) := by rw [hkm, show ((0 : Nat) : Int) = 0 from rfl, Int.mul_zero]; omega
                  have hB : (if askL b l d m hs (k : Int) = 0 then expF b d (k : Int) else 0) = expF b d (k : Int) + ((0 : Nat) : Int) * w := by rw [if_pos ea, show ((0 : Nat) : Int) = 0 from rfl, Int.zero_mul, Int.add_zero]
                  refine ⟨rfl, rfl, rfl, rfl, rfl, by show hs.length ≤ 2000000; first | omega | assumption, ⟨rfl, rfl, rfl, Nat.le_of_ble_eq_true rfl⟩, 3, [(2, .k), (3, .k), (4, .k), (8, .k), (10, .k), (11, .k), (12, .k), (13, .k), (14, .k), (15, .k)], fun n vs H => ∃ (j : Nat), (j : Int) ≤ winL b l d w k ∧ n = (winL b l d w k).toNat - j ∧ vs = [.int .i64 w, .int .i64 mo, .ptr 0 1 0 0, .ptr 1 1 0 0, .int .i64 (cntL b l d), .int .i64 (cntS (fun h => bitB bad h || bitB 0 h) hs : Int), .int .i64 (k : Int), .ptr 2 1 0 0, .int .i64 (min (hs.length : Int) ((knwL b l d hs bad : Int) + mo * (j : Int))), .int .i64 (expF b d k + (j : Int) * w)] ∧ H = [.cells [.int .i64 b, .int .i64 l, .int .i64 d, .int .i64 m, .sl false (.int .i64) hs], .cells [.b False, .int .i64 0], .cells [.int .i64 (if askL b l d m hs (k : Int) = 0 then expF b d (k : Int) else 0), .int .i64 (if askL b l d m hs (k : Int) = 0 then expT b l d (k : Int) else 0), .int .i64 (askL b l d m hs (k : Int))]], ⟨rfl, (winL b l d w k).toNat, 0, by unfold winL; omega, by omega, by rw [hA, hB]; rfl, rfl⟩, ?_⟩
                  rintro n vs H ⟨j, hc2_0, rfl, rfl, rfl⟩
                  have hmj : 0 ≤ mo * (j : Int) := Int.mul_nonneg (by omega) (by omega)
                  have hmJ : mo * (j : Int) ≤ 20000000 := Int.le_trans (Int.mul_le_mul_of_nonneg_left hc2_0 (by omega)) w7
                  have hjw : 0 ≤ (j : Int) * w := Int.mul_nonneg (by omega) (by omega)
                  refine ⟨fun h8 => ?_, fun h8 => ?_⟩
                  · replace h8 : (expF b d k + (j : Int) * w) ≤ (min (if askL b l d m hs (k : Int) = 0 then expT b l d (k : Int) else 0) 1000000) := h8
                    rw [if_pos ea] at h8
                    have hin := (win_in (b := b) (l := l) (d := d) (q := k) (j := j) (by omega : 1 ≤ w)).1 h8
                    have hmn := mul_next mo j
                    have hmw := mul_next' w j
                    refine ⟨fun h9 => ?_, fun h9 => ?_⟩
                    · replace h9 : (min (hs.length : Int) ((knwL b l d hs bad : Int) + mo * (j : Int))) < (hs.length : Int) := h9
                      refine ⟨⟨by show (-9223372036854775808 : Int) ≤ ((min (hs.length : Int) ((knwL b l d hs bad : Int) + mo * (j : Int))) + mo); omega, by show ((min (hs.length : Int) ((knwL b l d hs bad : Int) + mo * (j : Int))) + mo) ≤ (9223372036854775807 : Int); omega⟩, fun h10 => ?_, fun h10 => ?_⟩
                      · replace h10 : mo = 0 := h10
                        have e : min (hs.length : Int) ((min (hs.length : Int) ((knwL b l d hs bad : Int) + mo * (j : Int))) + mo) = (knwL b l d hs bad : Int) + min ((hs.length : Int) - (knwL b l d hs bad : Int)) (mo * winL b l d w k) := by rw [h10, Int.zero_mul, Int.zero_mul]; omega
                        refine ⟨fun h11 => ?_, fun h11 => ?_⟩
                        · replace h11 : m ≤ (min (hs.length : Int) ((min (hs.length : Int) ((knwL b l d hs bad : Int) + mo * (j : Int))) + mo)) := h11
                          have e2 : safL b l d m hs bad w mo = false := by
                            rw [e] at h11
                            rw [safL, range_all_bad (k := k) (by omega) (decide_eq_false (by omega)), Bool.and_false]
                          have e3 : (safL b l d m hs bad w mo = true) = False := propext ⟨fun h => (by rw [e2] at h; cases h), fun h => h.elim⟩
                          refine ⟨⟨rfl, rfl, rfl, Nat.le_of_ble_eq_true rfl⟩, ?_⟩
                          rw [e0, e3]
                          exact ⟨rfl, rfl, rfl, rfl⟩
                        · replace h11 : ¬ (m ≤ (min (hs.length : Int) ((min (hs.length : Int) ((knwL b l d hs bad : Int) + mo * (j : Int))) + mo))) := h11
                          have e2 : safQ b l d m hs bad w mo k = true := by
                            rw [e] at h11
                            exact decide_eq_true (by omega)
                          refine ⟨⟨by show (-9223372036854775808 : Int) ≤ ((k : Int) + 1); omega, by show ((k : Int) + 1) ≤ (9223372036854775807 : Int); omega⟩, ?_⟩
                          exact ⟨rfl, (cntL b l d).toNat - (k + 1), by omega, k + 1, by omega, by rw [range_all_succ, hc1_1, e2]; rfl, rfl, rfl, rfl⟩
                      · replace h10 : ¬ (mo = 0) := h10
                        have hC : min (hs.length : Int) ((min (hs.length : Int) ((knwL b l d hs bad : Int) + mo * (j : Int))) + mo) = min (hs.length : Int) ((knwL b l d hs bad : Int) + mo * ((j + 1 : Nat) : Int)) := by rw [hmn]; omega
                        have hD : expF b d (k : Int) + (j : Int) * w + w = expF b d (k : Int) + ((j + 1 : Nat) : Int) * w := by rw [hmw]; omega
                        refine ⟨⟨by show (-9223372036854775808 : Int) ≤ ((expF b d k + (j : Int) * w) + w); omega, by show ((expF b d k + (j : Int) * w) + w) ≤ (9223372036854775807 : Int); omega⟩, ?_⟩
                        exact ⟨rfl, (winL b l d w k).toNat - (j + 1), by omega, j + 1, by omega, rfl, by rw [hC, hD]; rfl, rfl⟩
                    · replace h9 : ¬ ((min (hs.length : Int) ((knwL b l d hs bad : Int) + mo * (j : Int))) < (hs.length : Int)) := h9
                      have e := win_end (len := (hs.length : Int)) (kn := (knwL b l d hs bad : Int)) (mo := mo) (W := winL b l d w k) (j := j) (by omega) hc2_0 hkl (.inr (by omega))
                      refine ⟨fun h12 => ?_, fun h12 => ?_⟩
                      · replace h12 : m ≤ (min (hs.length : Int) ((knwL b l d hs bad : Int) + mo * (j : Int))) := h12
                        have e2 : safL b l d m hs bad w mo = false := by
                          rw [e] at h12
                          rw [safL, range_all_bad (k := k) (by omega) (decide_eq_false (by omega)), Bool.and_false]
                        have e3 : (safL b l d m hs bad w mo = true) = False := propext ⟨fun h => (by rw [e2] at h; cases h), fun h => h.elim⟩
                        refine ⟨⟨rfl, rfl, rfl, Nat.le_of_ble_eq_true rfl⟩, ?_⟩
                        rw [e0, e3]
                        exact ⟨rfl, rfl, rfl, rfl⟩
                      · replace h12 : ¬ (m ≤ (min (hs.length : Int) ((knwL b l d hs bad : Int) + mo * (j : Int)))) := h12
                        have e2 : safQ b l d m hs bad w mo k = true := by
                          rw [e] at h12
                          exact decide_eq_true (by omega)
                        refine ⟨⟨by show (-9223372036854775808 : Int) ≤ ((k : Int) + 1); omega, by show ((k : Int) + 1) ≤ (9223372036854775807 : Int); omega⟩, ?_⟩
                        exact ⟨rfl, (cntL b l d).toNat - (k + 1), by omega, k + 1, by omega, by rw [range_all_succ, hc1_1, e2]; rfl, rfl, rfl, rfl⟩
                  · replace h8 : ¬ ((expF b d k + (j : Int) * w) ≤ (min (if askL b l d m hs (k : Int) = 0 then expT b l d (k : Int) else 0) 1000000)) := h8
                    rw [if_pos ea] at h8
                    have hin : ¬ (j : Int) < winL b l d w k := fun g => h8 ((win_in (by omega)).2 g)
                    have e := win_end (len := (hs.length : Int)) (kn := (knwL b l d hs bad : Int)) (mo := mo) (W := winL b l d w k) (j := j) (by omega) hc2_0 hkl (.inl (by omega))
                    refine ⟨fun h13 => ?_, fun h13 => ?_⟩
                    · replace h13 : m ≤ (min (hs.length : Int) ((knwL b l d hs bad : Int) + mo * (j : Int))) := h13
                      have e2 : safL b l d m hs bad w mo = false := by
                        rw [e] at h13
                        rw [safL, range_all_bad (k := k) (by omega) (decide_eq_false (by omega)), Bool.and_false]
                      have e3 : (safL b l d m hs bad w mo = true) = False := propext ⟨fun h => (by rw [e2] at h; cases h), fun h => h.elim⟩
                      refine ⟨⟨rfl, rfl, rfl, Nat.le_of_ble_eq_true rfl⟩, ?_⟩
                      rw [e0, e3]
                      exact ⟨rfl, rfl, rfl, rfl⟩
                    · replace h13 : ¬ (m ≤ (min (hs.length : Int) ((knwL b l d hs bad : Int) + mo * (j : Int)))) := h13
                      have e2 : safQ b l d m hs bad w mo k = true := by
                        rw [e] at h13
                        exact decide_eq_true (by omega)
                      refine ⟨⟨by show (-9223372036854775808 : Int) ≤ ((k : Int) + 1); omega, by show ((k : Int) + 1) ≤ (9223372036854775807 : Int); omega⟩, ?_⟩
                      exact ⟨rfl, (cntL b l d).toNat - (k + 1), by omega, k + 1, by omega, by rw [range_all_succ, hc1_1, e2]; rfl, rfl, rfl, rfl⟩
                · replace h7 : ¬ ((k : Int) < (cntL b l d)) := h7
                  refine ⟨⟨rfl, rfl, rfl, Nat.le_of_ble_eq_true rfl⟩, ?_⟩
                  have e2 : safL b l d m hs bad w mo = true := by rw [safL, decide_eq_true e0, Bool.true_and, show (cntL b l d).toNat = k by omega]; exact hc1_1
                  rw [e0, e2]
                  exact ⟨rfl, rfl, rfl, rfl⟩
            · replace h5 : mo < 0 := h5
              refine ⟨⟨rfl, rfl, rfl, Nat.le_of_ble_eq_true rfl⟩, ?_⟩
              have e1 : safE b l d m hs bad w mo = 3 := by have hr : redL b l d m hs bad [] = 0 := by { unfold redL; rw [if_pos (Classical.not_not.1 h0), if_pos ⟨by omega, by omega⟩]; rfl }; unfold safE; rw [if_pos hr, if_neg (by omega)]
              have e3 : (safL b l d m hs bad w mo = true) = False := propext ⟨fun h => (by rw [safL, decide_eq_false (by rw [e1]; first | exact h0 | decide), Bool.false_and] at h; cases h), fun h => h.elim⟩
              rw [e1, e3]
              exact ⟨rfl, rfl, rfl, rfl⟩
          · replace h4 : 1000000 < w := h4
            refine ⟨⟨rfl, rfl, rfl, Nat.le_of_ble_eq_true rfl⟩, ?_⟩
            have e1 : safE b l d m hs bad w mo = 3 := by have hr : redL b l d m hs bad [] = 0 := by { unfold redL; rw [if_pos (Classical.not_not.1 h0), if_pos ⟨by omega, by omega⟩]; rfl }; unfold safE; rw [if_pos hr, if_neg (by omega)]
            have e3 : (safL b l d m hs bad w mo = true) = False := propext ⟨fun h => (by rw [safL, decide_eq_false (by rw [e1]; first | exact h0 | decide), Bool.false_and] at h; cases h), fun h => h.elim⟩
            rw [e1, e3]
            exact ⟨rfl, rfl, rfl, rfl⟩
        · replace h3 : w < 1 := h3
          refine ⟨⟨rfl, rfl, rfl, Nat.le_of_ble_eq_true rfl⟩, ?_⟩
          have e1 : safE b l d m hs bad w mo = 3 := by have hr : redL b l d m hs bad [] = 0 := by { unfold redL; rw [if_pos (Classical.not_not.1 h0), if_pos ⟨by omega, by omega⟩]; rfl }; unfold safE; rw [if_pos hr, if_neg (by omega)]
          have e3 : (safL b l d m hs bad w mo = true) = False := propext ⟨fun h => (by rw [safL, decide_eq_false (by rw [e1]; first | exact h0 | decide), Bool.false_and] at h; cases h), fun h => h.elim⟩
          rw [e1, e3]
          exact ⟨rfl, rfl, rfl, rfl⟩
    · replace h1 : bad < 0 := h1
      refine ⟨⟨rfl, rfl, rfl, Nat.le_of_ble_eq_true rfl⟩, ?_⟩
      have e1 : safE b l d m hs bad w mo = 1 := by have hr : redL b l d m hs bad [] = 1 := by { unfold redL; rw [if_pos (Classical.not_not.1 h0), if_neg (by omega)] }; unfold safE; rw [if_neg (by rw [hr]; decide)]; exact hr
      have e3 : (safL b l d m hs bad w mo = true) = False := propext ⟨fun h => (by rw [safL, decide_eq_false (by rw [e1]; first | exact h0 | decide), Bool.false_and] at h; cases h), fun h => h.elim⟩
      rw [e1, e3]
      exact ⟨rfl, rfl, rfl, rfl⟩
def CRSaf : List (Nat × Con) := (41, pureC [.v (.cons (.int .i64) (.cons (.int .i64) (.cons (.int .i64) (.cons (.int .i64) (.cons (.sl (.int .i64)) .nil))))), .v (.int .i64), .v (.int .i64), .v (.int .i64)] sRSaf) :: CRTel
theorem kRSaf : Known Try.prog (En CRSaf tys [] QAt) := kRTel.add Try.func41 Try.call41 [.k, .k] fun ds p v bs h hp => by
  unfold sRSaf at h
  split at h <;> simp only [Option.some.injEq, Prod.mk.injEq, reduceCtorEq] at h
  obtain ⟨rfl, rfl, rfl⟩ := h
  exact bRSaf _ _ _ _ _ _ _ _ hp
end Go.Proofs.Ytgljcfnplkcfhaa.S29

namespace Go.Proofs.Ytgljcfnplkcfhaa.S29
open Go Go.Proofs.Ytgljcfnplkcfhaa.Vc Go.Proofs
set_option maxRecDepth 100000
set_option linter.unusedVariables false

def sLLooks : List V → Option (Prop × V × List Blk)
  | [.agg [.int .i64 b, .int .i64 l, .int .i64 d, .int .i64 m, .sl false (.int .i64) hs], .sl false (.int .i64) z, .dat false (.arr 4 (.int .i64)) nu] => some (hs.length ≤ 1048576 ∧ z.length ≤ 1048576 ∧ nu.length = 4, .b True, [])
  | _ => none
set_option maxHeartbeats 4000000 in
theorem bLLooks (b : Int) (l : Int) (d : Int) (m : Int) (hs : List Int) (z : List Int) (nu : List Int) (hp0 : hs.length ≤ 1048576) (hp1 : z.length ≤ 1048576) (hp2 : nu.length = 4) : bodyP (En CRSaf tys [] QAt) Try.f5 [.k] [.agg [.int .i64 b, .int .i64 l, .int .i64 d, .int .i64 m, .sl false (.int .i64) hs], .sl false (.int .i64) z, .dat false (.arr 4 (.int .i64)) nu] (.b True) [] := by
  have w1 := lokW_len b l d m hs z (nu.getD 0 0)
  have w2 := lokT_len b l d m hs z (nu.getD 0 0)
  have w3 := lokR_len b l d m hs z (nu.getD 0 0)
  refine ⟨⟨rfl, by first | assumption | simp⟩, rfl, rfl, rfl, rfl, rfl, by show hs.length ≤ 2000000; first | omega | assumption, fun h0 => ?_, fun h0 => ?_⟩
  · replace h0 : ¬ (¬ (fewP b l d m hs 60)) := h0
    refine ⟨fun h1 => ?_, fun h1 => ?_⟩
    · replace h1 : 60 < (z.length : Int) := h1
      refine ⟨trivial, ?_⟩
      exact ⟨rfl, rfl, congrArg V.b (propext ⟨fun _ => trivial, fun _ => by first | trivial | rfl⟩), rfl⟩
    · replace h1 : ¬ (60 < (z.length : Int)) := h1
      refine ⟨⟨by show (0 : Int) ≤ 0; omega, by show 0 < (4 : Int); omega, by first | assumption | simp⟩, rfl, rfl, rfl, rfl, rfl, ⟨by show hs.length ≤ 2000000; first | omega | assumption, by show z.length ≤ 2000000; first | omega | assumption⟩, ⟨rfl, rfl, rfl, Nat.le_of_ble_eq_true rfl⟩, ⟨by show (0 : Int) ≤ 0; omega, by show 0 < (4 : Int); omega, by first | assumption | simp⟩, rfl, rfl, rfl, rfl, rfl, ⟨by show hs.length ≤ 2000000; first | omega | assumption, by show z.length ≤ 2000000; first | omega | assumption⟩, ⟨rfl, rfl, rfl, Nat.le_of_ble_eq_true rfl⟩, ⟨by show (0 : Int) ≤ 1; omega, by show 1 < (4 : Int); omega, by first | assumption | simp⟩, ⟨by show (0 : Int) ≤ 2; omega, by show 2 < (4 : Int); omega, by first | assumption | simp⟩, ⟨by show (0 : Int) ≤ 3; omega, by show 3 < (4 : Int); omega, by first | assumption | simp⟩, rfl, rfl, rfl, rfl, rfl, rfl, rfl, by show hs.length ≤ 2000000; first | omega | assumption, ⟨by show (0 : Int) ≤ 1; omega, by show 1 < (4 : Int); omega, by first | assumption | simp⟩, ⟨by show (0 : Int) ≤ 2; omega, by show 2 < (4 : Int); omega, by first | assumption | simp⟩, ⟨by show (0 : Int) ≤ 3; omega, by show 3 < (4 : Int); omega, by first | assumption | simp⟩, rfl, rfl, rfl, rfl, rfl, rfl, rfl, by show hs.length ≤ 2000000; first | omega | assumption, ⟨rfl, rfl, rfl, Nat.le_of_ble_eq_true rfl⟩, trivial, fun h2 => ?_, fun h2 => absurd (show True by first | trivial | rfl | exact fun h => h rfl | exact ⟨rfl, rfl, rfl, rfl, rfl, Iff.rfl⟩ | exact Iff.rfl) h2⟩
      refine ⟨rfl, rfl, (decide (lokL b l d m hs z (nu.getD 0 0))), decide_eq_true_iff, rfl, rfl, (decide (lokL b l d m hs z (nu.getD 0 0))), decide_eq_true_iff, ⟨by show (lokW b l d m hs z (nu.getD 0 0)).length ≤ 2000000; first | omega | assumption, by show (lokT b l d m hs z (nu.getD 0 0)).length ≤ 2000000; first | omega | assumption, by show (lokR b l d m hs z (nu.getD 0 0)).length ≤ 2000000; first | omega | assumption, by show (lokW b l d m hs z (nu.getD 0 0)).length ≤ 2000000; first | omega | assumption, by show (lokT b l d m hs z (nu.getD 0 0)).length ≤ 2000000; first | omega | assumption, by show (lokR b l d m hs z (nu.getD 0 0)).length ≤ 2000000; first | omega | assumption⟩, fun h3 => ?_, fun h3 => absurd (show ((lokW b l d m hs z (nu.getD 0 0)) = (lokW b l d m hs z (nu.getD 0 0)) ∧ (lokT b l d m hs z (nu.getD 0 0)) = (lokT b l d m hs z (nu.getD 0 0)) ∧ (lokR b l d m hs z (nu.getD 0 0)) = (lokR b l d m hs z (nu.getD 0 0)) ∧ (lokM b l d m hs z (nu.getD 0 0)) = (lokM b l d m hs z (nu.getD 0 0)) ∧ (lokY b l d m hs z (nu.getD 0 0)) = (lokY b l d m hs z (nu.getD 0 0)) ∧ (((decide (lokL b l d m hs z (nu.getD 0 0))) = true) ↔ ((decide (lokL b l d m hs z (nu.getD 0 0))) = true))) by first | trivial | rfl | exact fun h => h rfl | exact ⟨rfl, rfl, rfl, rfl, rfl, Iff.rfl⟩ | exact Iff.rfl) h3⟩
      refine ⟨fun h4 => ?_, fun h4 => absurd (show (lokE b l d m hs z (nu.getD 0 0)) = (lokE b l d m hs z (nu.getD 0 0)) by first | trivial | rfl | exact fun h => h rfl | exact ⟨rfl, rfl, rfl, rfl, rfl, Iff.rfl⟩ | exact Iff.rfl) h4⟩
      refine ⟨fun h5 => ?_, fun h5 => absurd (show (safL b l d m hs (nu.getD 1 0) (nu.getD 2 0) (nu.getD 3 0) = true ↔ safL b l d m hs (nu.getD 1 0) (nu.getD 2 0) (nu.getD 3 0) = true) by first | trivial | rfl | exact fun h => h rfl | exact ⟨rfl, rfl, rfl, rfl, rfl, Iff.rfl⟩ | exact Iff.rfl) h5⟩
      exact ⟨rfl, rfl, congrArg V.b (propext ⟨fun _ => trivial, fun _ => by first | trivial | rfl⟩), rfl⟩
  · replace h0 : ¬ (fewP b l d m hs 60) := h0
    refine ⟨trivial, ?_⟩
    exact ⟨rfl, rfl, congrArg V.b (propext ⟨fun _ => trivial, fun _ => by first | trivial | rfl⟩), rfl⟩
end Go.Proofs.Ytgljcfnplkcfhaa.S29

namespace Go.Proofs.Ytgljcfnplkcfhaa.Cd
open Go Go.Proofs.Ytgljcfnplkcfhaa.Vc Go.Proofs Go.Proofs.Ytgljcfnplkcfhaa.S29 Go.ChangeShapes Go.WideShapes Go.ChangeAt Go.RowKit
set_option maxRecDepth 100000
set_option linter.unusedVariables false

theorem bulkAll {H : Type} : ∀ l : List (DataW H), Rows.uptoBulkAll l = (l.map Rows.uptoBulk).sum
  | [] => rfl
  | d :: l => by rw [Rows.uptoBulkAll, bulkAll l]; rfl
theorem bulk {H : Type} : Bulk (H := H) Rows.uptoBulk where
  one d := by cases d with
    | lit l => cases l <;> simp [Rows.uptoBulk]
    | _ => simp [Rows.uptoBulk]
  str b := by simp [Rows.uptoBulk]
  sl es sp := by rw [Rows.uptoBulk, bulkAll, bulkAll]; omega
  agg ps := by rw [Rows.uptoBulk, bulkAll]; omega
theorem wt_cons (t ts : Ty) (x : (Ty.cons t ts).D) : wt (.cons t ts) x = wt t x.1 + wt ts x.2 := rfl
theorem wt_int (k : IntKind) (x : Int) : wt (.int k) x = 1 := rfl
theorem wt_nil (x : Unit) : wt .nil x = 0 := rfl
theorem laidOut : laidOutB Try.prog = true := by kernel_rfl
theorem own : ownKnob Try.prog.godebug = none := by kernel_rfl

section
variable {H : Type} {enc : TypeId × Value → H} {P : Program}
theorem post_same {f : Func} {s : ChangeSpec} {apart fresh handsOn again : Bool} {W W' : World} {args : Array Value} {v : Value} {ds gs : List (DataW H)} {before pa pv : List MemPlace}
    (hW : DataW.Whole enc P f.params.toList s.vars apart W args.toList ds gs before)
    (hres : ∀ (b : Nat) (sp : Nat → Bool) (hd : Bool), DataW.TrodAll enc P W' b sp hd f.resultTypes.toList (v.resultList f.resultTypes.size) (s.fn H (ds ++ gs)).results [])
    (hargs : ∀ sp : Nat → Bool, (∀ p ∈ before, sp p.block = true) → DataW.TrodAll enc P W' 0 sp true f.params.toList args.toList (s.fn H (ds ++ gs)).args pa)
    (hvars : ∀ sp : Nat → Bool, (∀ p ∈ before, sp p.block = true) → DataW.TrodVars enc P W' sp s.vars (s.fn H (ds ++ gs)).vars pv)
    (hps : before = pa ++ pv) (hb : Below W.heap.size W W')
    (hok : ∀ (j : Nat) (t : TypeId) (r : Value), f.resultTypes[j]? = some t → (v.resultList f.resultTypes.size)[j]? = some r → Value.okWide P W' .any 0 t r) :
    s.post enc P f apart fresh handsOn again W args v W' := by
  have hlt : ∀ p ∈ before, p.block < W.heap.size := fun p hp => by simpa using hW.lt p hp
  have hold : ∀ p ∈ before, (fun b => decide (b < W.heap.size)) p.block = true := fun p hp => by simpa using hW.lt p hp
  refine ⟨ds, gs, before, [], pa, pv, hW, hres _ _ _, hargs _ hold, hvars _ hold, World.keptBut_mono (fun p hp => ⟨hp, ?_⟩) (hb.frame (· ∈ before)), fun _ => ?_⟩
  · rw [hps, List.mem_append] at hp
    exact Or.inr hp
  · obtain ⟨_, _, _, _, _, hz, hn⟩ := hW
    refine ⟨hok, _, _, ([] ++ pa) ++ pv, ⟨[] ++ pa, pv, trodAll_append (hargs _ (fun _ _ => rfl)) (hres _ _ _), hvars _ (fun _ _ => rfl), rfl, ?_, ?_⟩, ?_⟩
    · intro b off hp
      have hp' : MemPlace.cell b off ∈ before := by rw [hps]; simpa using hp
      rw [hb.frozen (hlt _ hp')]
      exact hz b off hp'
    · intro ha
      have := hn ha
      rw [hps] at this
      simpa using this
    · intro p hp _
      rw [hps]
      simpa using hp
end
end Go.Proofs.Ytgljcfnplkcfhaa.Cd

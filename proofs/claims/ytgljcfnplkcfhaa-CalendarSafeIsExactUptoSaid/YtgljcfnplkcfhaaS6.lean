/- Texts of this claim: S29.R3, S29.R4, S29.Pg, S29.Ph. -/
import Derived.Test.YtgljcfnplkcfhaaS5
set_option linter.unusedVariables false
set_option linter.unusedSimpArgs false
namespace Go.Proofs.Ytgljcfnplkcfhaa.S29
open Go Go.Proofs.Ytgljcfnplkcfhaa.Vc Go.Proofs
set_option maxRecDepth 100000
set_option linter.unusedVariables false

def sRWro : List V → Option (Prop × V × List Blk)
  | [.sl false (.cons (.int .i64) (.cons (.int .i64) .nil)) a] => some (a.length ≤ 2000000, .int .i64 (capL a), [])
  | _ => none
set_option maxHeartbeats 1000000 in
theorem bRWro (a : List (Int × (Int × Unit))) (hp0 : a.length ≤ 2000000) : bodyP (En CRLok tys [] QAt) Try.f82 [.k] [.sl false (.cons (.int .i64) (.cons (.int .i64) .nil)) a] (.int .i64 (capL a)) [] := by
  refine ⟨fun h0 => ?_, fun h0 => ?_⟩
  · replace h0 : 500 < (a.length : Int) := h0
    first | have e := all_bad (d := (0, (0, ()))) (by omega) hc1_1 (capB_no (by omega)) | have e := all_end (by omega) hc1_1 | skip
    refine ⟨rfl, rfl, ?_, rfl⟩
    unfold capL
    repeat' split
    all_goals first | rfl | omega | (exfalso; simp_all; done)
  · replace h0 : ¬ (500 < (a.length : Int)) := h0
    refine ⟨0, [(0, .k), (3, .k)], fun n vs H => ∃ (k : Nat), k ≤ a.length ∧ (a.drop k).all capB = a.all capB ∧ n = a.length - k ∧ vs = [.sl false (.cons (.int .i64) (.cons (.int .i64) .nil)) a, .int .i64 (k : Int)] ∧ H = [], ⟨rfl, a.length, 0, by omega, rfl, by omega, rfl, rfl⟩, ?_⟩
    rintro n vs H ⟨k, hc1_0, hc1_1, rfl, rfl, rfl⟩
    refine ⟨fun h1 => ?_, fun h1 => ?_⟩
    · replace h1 : (k : Int) < (a.length : Int) := h1
      refine ⟨⟨by show (0 : Int) ≤ (k : Int); omega, by show (k : Int) < (a.length : Int); omega⟩, fun h2 => ?_, fun h2 => ?_⟩
      · replace h2 : ¬ (((a.getD k (0, (0, ()))).1) < 0) := h2
        refine ⟨⟨by show (0 : Int) ≤ (k : Int); omega, by show (k : Int) < (a.length : Int); omega⟩, fun h3 => ?_, fun h3 => ?_⟩
        · replace h3 : ¬ (11 < ((a.getD k (0, (0, ()))).1)) := h3
          refine ⟨⟨by show (0 : Int) ≤ (k : Int); omega, by show (k : Int) < (a.length : Int); omega⟩, fun h4 => ?_, fun h4 => ?_⟩
          · replace h4 : ¬ ((((a.getD k (0, (0, ()))).2).1) < 0) := h4
            refine ⟨⟨by show (0 : Int) ≤ (k : Int); omega, by show (k : Int) < (a.length : Int); omega⟩, fun h5 => ?_, fun h5 => ?_⟩
            · replace h5 : 1000000 < (((a.getD k (0, (0, ()))).2).1) := h5
              first | have e := all_bad (d := (0, (0, ()))) (by omega) hc1_1 (capB_no (by omega)) | have e := all_end (by omega) hc1_1 | skip
              refine ⟨rfl, rfl, ?_, rfl⟩
              unfold capL
              repeat' split
              all_goals first | rfl | omega | (exfalso; simp_all; done)
            · replace h5 : ¬ (1000000 < (((a.getD k (0, (0, ()))).2).1)) := h5
              refine ⟨⟨by show (-9223372036854775808 : Int) ≤ ((k : Int) + 1); omega, by show ((k : Int) + 1) ≤ (9223372036854775807 : Int); omega⟩, ?_⟩
              exact ⟨rfl, a.length - (k + 1), by omega, k + 1, by omega, all_next (d := (0, (0, ()))) (by omega) hc1_1 (capB_yes (by omega)), rfl, rfl, rfl⟩
          · replace h4 : (((a.getD k (0, (0, ()))).2).1) < 0 := h4
            first | have e := all_bad (d := (0, (0, ()))) (by omega) hc1_1 (capB_no (by omega)) | have e := all_end (by omega) hc1_1 | skip
            refine ⟨rfl, rfl, ?_, rfl⟩
            unfold capL
            repeat' split
            all_goals first | rfl | omega | (exfalso; simp_all; done)
        · replace h3 : 11 < ((a.getD k (0, (0, ()))).1) := h3
          first | have e := all_bad (d := (0, (0, ()))) (by omega) hc1_1 (capB_no (by omega)) | have e := all_end (by omega) hc1_1 | skip
          refine ⟨rfl, rfl, ?_, rfl⟩
          unfold capL
          repeat' split
          all_goals first | rfl | omega | (exfalso; simp_all; done)
      · replace h2 : ((a.getD k (0, (0, ()))).1) < 0 := h2
        first | have e := all_bad (d := (0, (0, ()))) (by omega) hc1_1 (capB_no (by omega)) | have e := all_end (by omega) hc1_1 | skip
        refine ⟨rfl, rfl, ?_, rfl⟩
        unfold capL
        repeat' split
        all_goals first | rfl | omega | (exfalso; simp_all; done)
    · replace h1 : ¬ ((k : Int) < (a.length : Int)) := h1
      first | have e := all_bad (d := (0, (0, ()))) (by omega) hc1_1 (capB_no (by omega)) | have e := all_end (by omega) hc1_1 | skip
      refine ⟨rfl, rfl, ?_, rfl⟩
      unfold capL
      repeat' split
      all_goals first | rfl | omega | (exfalso; simp_all; done)
def CRWro : List (Nat × Con) := (82, pureC [.v (.sl (.cons (.int .i64) (.cons (.int .i64) .nil)))] sRWro) :: CRLok
theorem kRWro : Known Try.prog (En CRWro tys [] QAt) := kRLok.add Try.func82 Try.call82 [.k] fun ds p v bs h hp => by
  unfold sRWro at h
  split at h <;> simp only [Option.some.injEq, Prod.mk.injEq, reduceCtorEq] at h
  obtain ⟨rfl, rfl, rfl⟩ := h
  exact bRWro _ hp
def sRCpd : List V → Option (Prop × V × List Blk)
  | [.sl false (.cons (.int .i64) (.cons (.int .i64) .nil)) a, .int .i64 h, .int .i64 f, .int .i64 t] => some (a.length ≤ 2000000, .b (cpdB a h f t = true), [])
  | _ => none
set_option maxHeartbeats 1000000 in
theorem bRCpd (a : List (Int × (Int × Unit))) (h : Int) (f : Int) (t : Int) (hp0 : a.length ≤ 2000000) : bodyP (En CRWro tys [] QAt) Try.f83 [.k] [.sl false (.cons (.int .i64) (.cons (.int .i64) .nil)) a, .int .i64 h, .int .i64 f, .int .i64 t] (.b (cpdB a h f t = true)) [] := by
  refine ⟨0, [(0, .k), (1, .k), (2, .k), (3, .k), (9, .k)], fun n vs H => ∃ (k : Nat), k ≤ a.length ∧ ((a.take k).any (fun x => decide (x.1 = h ∧ f ≤ x.2.1 ∧ x.2.1 ≤ t)) = false) ∧ n = a.length - k ∧ vs = [.sl false (.cons (.int .i64) (.cons (.int .i64) .nil)) a, .int .i64 h, .int .i64 f, .int .i64 t, .int .i64 (k : Int)] ∧ H = [], ⟨rfl, a.length, 0, by omega, rfl, by omega, rfl, rfl⟩, ?_⟩
  rintro n vs H ⟨k, hc1_0, hc1_1, rfl, rfl, rfl⟩
  refine ⟨fun h0 => ?_, fun h0 => ?_⟩
  · replace h0 : (k : Int) < (a.length : Int) := h0
    refine ⟨⟨by show (0 : Int) ≤ (k : Int); omega, by show (k : Int) < (a.length : Int); omega⟩, fun h1 => ?_, fun h1 => ?_⟩
    · replace h1 : ((a.getD k (0, (0, ()))).1) = h := h1
      refine ⟨⟨by show (0 : Int) ≤ (k : Int); omega, by show (k : Int) < (a.length : Int); omega⟩, fun h2 => ?_, fun h2 => ?_⟩
      · replace h2 : f ≤ (((a.getD k (0, (0, ()))).2).1) := h2
        refine ⟨⟨by show (0 : Int) ≤ (k : Int); omega, by show (k : Int) < (a.length : Int); omega⟩, fun h3 => ?_, fun h3 => ?_⟩
        · replace h3 : (((a.getD k (0, (0, ()))).2).1) ≤ t := h3
          have e : cpdB a h f t = true := any_yes (d := (0, (0, ()))) (k := k) (by omega) (decide_eq_true ⟨by omega, by omega, by omega⟩)
          rw [e]
          exact ⟨rfl, rfl, rfl, rfl⟩
        · replace h3 : ¬ ((((a.getD k (0, (0, ()))).2).1) ≤ t) := h3
          refine ⟨⟨by show (-9223372036854775808 : Int) ≤ ((k : Int) + 1); omega, by show ((k : Int) + 1) ≤ (9223372036854775807 : Int); omega⟩, ?_⟩
          exact ⟨rfl, a.length - (k + 1), by omega, k + 1, by omega, any_take_no (d := (0, (0, ()))) (by omega) hc1_1 (decide_eq_false (by omega)), rfl, rfl, rfl⟩
      · replace h2 : ¬ (f ≤ (((a.getD k (0, (0, ()))).2).1)) := h2
        refine ⟨⟨by show (-9223372036854775808 : Int) ≤ ((k : Int) + 1); omega, by show ((k : Int) + 1) ≤ (9223372036854775807 : Int); omega⟩, ?_⟩
        exact ⟨rfl, a.length - (k + 1), by omega, k + 1, by omega, any_take_no (d := (0, (0, ()))) (by omega) hc1_1 (decide_eq_false (by omega)), rfl, rfl, rfl⟩
    · replace h1 : ¬ (((a.getD k (0, (0, ()))).1) = h) := h1
      refine ⟨⟨by show (-9223372036854775808 : Int) ≤ ((k : Int) + 1); omega, by show ((k : Int) + 1) ≤ (9223372036854775807 : Int); omega⟩, ?_⟩
      exact ⟨rfl, a.length - (k + 1), by omega, k + 1, by omega, any_take_no (d := (0, (0, ()))) (by omega) hc1_1 (decide_eq_false (by omega)), rfl, rfl, rfl⟩
  · replace h0 : ¬ ((k : Int) < (a.length : Int)) := h0
    have e : cpdB a h f t = false := by rw [← hc1_1, List.take_of_length_le (by omega)]; rfl
    rw [e]
    exact ⟨rfl, rfl, rfl, rfl⟩
def CRCpd : List (Nat × Con) := (83, pureC [.v (.sl (.cons (.int .i64) (.cons (.int .i64) .nil))), .v (.int .i64), .v (.int .i64), .v (.int .i64)] sRCpd) :: CRWro
theorem kRCpd : Known Try.prog (En CRCpd tys [] QAt) := kRWro.add Try.func83 Try.call83 [.k] fun ds p v bs h hp => by
  unfold sRCpd at h
  split at h <;> simp only [Option.some.injEq, Prod.mk.injEq, reduceCtorEq] at h
  obtain ⟨rfl, rfl, rfl⟩ := h
  exact bRCpd _ _ _ _ hp
def sRBit : List V → Option (Prop × V × List Blk)
  | [.int .i64 h] => some (0 ≤ h ∧ h ≤ 11, .int .i64 (pwN h.toNat), [])
  | _ => none
set_option maxHeartbeats 1000000 in
theorem bRBit (h : Int) (hp0 : 0 ≤ h) (hp1 : h ≤ 11) : bodyP (En CRCpd tys [] QAt) Try.f84 [.k] [.int .i64 h] (.int .i64 (pwN h.toNat)) [] := by
  refine ⟨0, [(0, .k), (3, .k), (4, .k)], fun n vs H => ∃ (k : Nat), k ≤ h.toNat ∧ n = h.toNat - k ∧ vs = [.int .i64 h, .int .i64 (pwN k), .int .i64 (k : Int)] ∧ H = [], ⟨rfl, h.toNat, 0, by omega, by omega, rfl, rfl⟩, ?_⟩
  rintro n vs H ⟨k, hc1_0, rfl, rfl, rfl⟩
  have hpw := pwN_bd k (by omega)
  refine ⟨fun h0 => ?_, fun h0 => ?_⟩
  · replace h0 : (k : Int) < h := h0
    refine ⟨⟨by show (-9223372036854775808 : Int) ≤ (2 * (pwN k)); omega, by show (2 * (pwN k)) ≤ (9223372036854775807 : Int); omega⟩, ⟨by show (-9223372036854775808 : Int) ≤ ((k : Int) + 1); omega, by show ((k : Int) + 1) ≤ (9223372036854775807 : Int); omega⟩, ?_⟩
    exact ⟨rfl, h.toNat - (k + 1), by omega, k + 1, by omega, rfl, by rw [← pwN_succ]; rfl, rfl⟩
  · replace h0 : ¬ ((k : Int) < h) := h0
    obtain rfl : k = h.toNat := by omega
    exact ⟨rfl, rfl, rfl, rfl⟩
def CRBit : List (Nat × Con) := (84, pureC [.v (.int .i64)] sRBit) :: CRCpd
theorem kRBit : Known Try.prog (En CRBit tys [] QAt) := kRCpd.add Try.func84 Try.call84 [.k] fun ds p v bs h hp => by
  unfold sRBit at h
  split at h <;> simp only [Option.some.injEq, Prod.mk.injEq, reduceCtorEq] at h
  obtain ⟨rfl, rfl, rfl⟩ := h
  exact bRBit _ hp.1 hp.2
def sRSeen : List V → Option (Prop × V × List Blk)
  | [.agg [.int .i64 b, .int .i64 l, .int .i64 d, .int .i64 m, .sl false (.int .i64) hs], .sl false (.cons (.int .i64) (.cons (.int .i64) .nil)) a, .int .i64 q] => some (hs.length ≤ 2000000 ∧ a.length ≤ 2000000, .agg [.int .i64 (senL b l d m hs a q), .int .i64 (senE b l d m hs a q)], [])
  | _ => none
set_option maxHeartbeats 1000000 in
theorem bRSeen (b : Int) (l : Int) (d : Int) (m : Int) (hs : List Int) (a : List (Int × (Int × Unit))) (q : Int) (hp0 : hs.length ≤ 2000000) (hp1 : a.length ≤ 2000000) : bodyP (En CRBit tys [] QAt) Try.f32 [.k, .k] [.agg [.int .i64 b, .int .i64 l, .int .i64 d, .int .i64 m, .sl false (.int .i64) hs], .sl false (.cons (.int .i64) (.cons (.int .i64) .nil)) a, .int .i64 q] (.agg [.int .i64 (senL b l d m hs a q), .int .i64 (senE b l d m hs a q)]) [] := by
  refine ⟨rfl, rfl, rfl, rfl, by show hs.length ≤ 2000000; first | omega | assumption, fun h0 => ?_, fun h0 => ?_⟩
  · replace h0 : (chkL b l d m hs) = 0 := h0
    refine ⟨by show a.length ≤ 2000000; first | omega | assumption, fun h1 => ?_, fun h1 => ?_⟩
    · replace h1 : (capL a) ≠ 0 := h1
      refine ⟨⟨rfl, rfl, rfl, Nat.le_of_ble_eq_true rfl⟩, ?_⟩
      rw [show senL b l d m hs a q = 0 from if_neg (fun h => h1 h.2.1), show senE b l d m hs a q = capL a by unfold senE; rw [if_pos h0, if_neg h1]]
      exact ⟨rfl, rfl, rfl, rfl⟩
    · replace h1 : ¬ ((capL a) ≠ 0) := h1
      refine ⟨rfl, rfl, rfl, rfl, rfl, by show hs.length ≤ 2000000; first | omega | assumption, ⟨rfl, rfl, rfl, Nat.le_of_ble_eq_true rfl⟩, fun h2 => ?_, fun h2 => ?_⟩
      · replace h2 : (askL b l d m hs q) ≠ 0 := h2
        refine ⟨⟨rfl, rfl, rfl, Nat.le_of_ble_eq_true rfl⟩, ?_⟩
        rw [show senL b l d m hs a q = 0 from if_neg (fun h => h2 h.2.2), show senE b l d m hs a q = askL b l d m hs q by unfold senE; rw [if_pos h0, if_pos (Classical.not_not.1 h1)]]
        exact ⟨rfl, rfl, rfl, rfl⟩
      · replace h2 : ¬ ((askL b l d m hs q) ≠ 0) := h2
        obtain ⟨hc, hq0, hq1⟩ := ask0 (Classical.not_not.1 h2)
        obtain ⟨q1, q2, q3, q4, q5, q6, q7, q8, q9, q10, q11⟩ := id hc
        have ea := (Classical.not_not.1 h2)
        refine ⟨3, [(1, .k), (3, .k), (6, .k), (8, .k), (9, .k), (10, .k)], fun n vs H => ∃ (k : Nat), k ≤ hs.length ∧ n = hs.length - k ∧ vs = [.sl false (.cons (.int .i64) (.cons (.int .i64) .nil)) a, .ptr 0 1 0 0, .ptr 1 1 0 0, .ptr 2 1 0 0, .int .i64 (setS (fun h => cpdB a (h : Int) (expF b d q) (expT b l d q)) (hs.take k)), .int .i64 (k : Int)] ∧ H = [.cells [.int .i64 b, .int .i64 l, .int .i64 d, .int .i64 m, .sl false (.int .i64) hs], .cells [.int .i64 0, .int .i64 0], .cells [.int .i64 (if askL b l d m hs q = 0 then expF b d q else 0), .int .i64 (if askL b l d m hs q = 0 then expT b l d q else 0), .int .i64 (askL b l d m hs q)]], ⟨rfl, hs.length, 0, by omega, by omega, rfl, rfl⟩, ?_⟩
        rintro n vs H ⟨k, hc1_0, rfl, rfl, rfl⟩
        refine ⟨fun h3 => ?_, fun h3 => ?_⟩
        · replace h3 : (k : Int) < (hs.length : Int) := h3
          have hkl : k < hs.length := by omega
          obtain ⟨g1, g2⟩ := hsF_at hs _ k q8 hkl
          have hpw := pwN_bd11 (hs.getD k 0).toNat (by omega)
          have hsb := setS_bd (fun h => cpdB a (h : Int) (expF b d q) (expT b l d q)) (hs.take k) (fun x hx => (hsF_all hs _ q8 x (List.mem_of_mem_take hx)).2)
          rw [List.length_take] at hsb
          have e := setS_snoc (fun h => cpdB a (h : Int) (expF b d q) (expT b l d q)) (l := hs) (k := k) hkl
          have eg : (((hs.getD k 0).toNat : Nat) : Int) = hs.getD k 0 := by omega
          refine ⟨by kernel_rfl, ⟨by show (0 : Int) ≤ (k : Int); omega, by show (k : Int) < (hs.length : Int); omega⟩, rfl, rfl, rfl, by show a.length ≤ 2000000; first | omega | assumption, fun h4 => ?_, fun h4 => ?_⟩
          · replace h4 : cpdB a (hs.getD k 0) (if askL b l d m hs q = 0 then expF b d q else 0) (if askL b l d m hs q = 0 then expT b l d q else 0) = true := h4
            rw [if_pos ea, if_pos ea] at h4
            rw [if_pos (by rw [← h4, eg])] at e
            refine ⟨⟨by show (0 : Int) ≤ (k : Int); omega, by show (k : Int) < (hs.length : Int); omega⟩, rfl, ⟨by show 0 ≤ (hs.getD k 0); first | omega | assumption, by show (hs.getD k 0) ≤ 11; first | omega | assumption⟩, ⟨by show (-9223372036854775808 : Int) ≤ ((setS (fun h => cpdB a (h : Int) (expF b d q) (expT b l d q)) (hs.take k)) + (pwN (hs.getD k 0).toNat)); omega, by show ((setS (fun h => cpdB a (h : Int) (expF b d q) (expT b l d q)) (hs.take k)) + (pwN (hs.getD k 0).toNat)) ≤ (9223372036854775807 : Int); omega⟩, ⟨by show (-9223372036854775808 : Int) ≤ ((k : Int) + 1); omega, by show ((k : Int) + 1) ≤ (9223372036854775807 : Int); omega⟩, ?_⟩
            exact ⟨rfl, hs.length - (k + 1), by omega, k + 1, by omega, rfl, by rw [e]; rfl, rfl⟩
          · replace h4 : ¬ (cpdB a (hs.getD k 0) (if askL b l d m hs q = 0 then expF b d q else 0) (if askL b l d m hs q = 0 then expT b l d q else 0) = true) := h4
            rw [if_pos ea, if_pos ea] at h4
            rw [if_neg (by intro g; apply h4; rw [← g, eg]), Int.add_zero] at e
            refine ⟨⟨by show (-9223372036854775808 : Int) ≤ ((k : Int) + 1); omega, by show ((k : Int) + 1) ≤ (9223372036854775807 : Int); omega⟩, ?_⟩
            exact ⟨rfl, hs.length - (k + 1), by omega, k + 1, by omega, rfl, by rw [e]; rfl, rfl⟩
        · replace h3 : ¬ ((k : Int) < (hs.length : Int)) := h3
          refine ⟨⟨rfl, rfl, rfl, Nat.le_of_ble_eq_true rfl⟩, ?_⟩
          obtain rfl : k = hs.length := by omega
          rw [show senL b l d m hs a q = setS (fun h => cpdB a (h : Int) (expF b d q) (expT b l d q)) (hs.take hs.length) by unfold senL; rw [if_pos ⟨h0, (Classical.not_not.1 h1), ea⟩, List.take_length, sen_set' hc a hq0], show senE b l d m hs a q = 0 by unfold senE; rw [if_pos h0, if_pos (Classical.not_not.1 h1)]; exact ea]
          exact ⟨rfl, rfl, rfl, rfl⟩
  · replace h0 : ¬ ((chkL b l d m hs) = 0) := h0
    refine ⟨fun h5 => ?_, fun h5 => absurd (show (chkL b l d m hs) ≠ 0 by first | omega | assumption | simp_all) h5⟩
    refine ⟨⟨rfl, rfl, rfl, Nat.le_of_ble_eq_true rfl⟩, ?_⟩
    rw [show senL b l d m hs a q = 0 from if_neg (fun h => h0 h.1), show senE b l d m hs a q = chkL b l d m hs from if_neg h0]
    exact ⟨rfl, rfl, rfl, rfl⟩
def CRSeen : List (Nat × Con) := (32, pureC [.v (.cons (.int .i64) (.cons (.int .i64) (.cons (.int .i64) (.cons (.int .i64) (.cons (.sl (.int .i64)) .nil))))), .v (.sl (.cons (.int .i64) (.cons (.int .i64) .nil))), .v (.int .i64)] sRSeen) :: CRBit
theorem kRSeen : Known Try.prog (En CRSeen tys [] QAt) := kRBit.add Try.func32 Try.call32 [.k, .k] fun ds p v bs h hp => by
  unfold sRSeen at h
  split at h <;> simp only [Option.some.injEq, Prod.mk.injEq, reduceCtorEq] at h
  obtain ⟨rfl, rfl, rfl⟩ := h
  exact bRSeen _ _ _ _ _ _ _ hp.1 hp.2
def sRMany : List V → Option (Prop × V × List Blk)
  | [.agg [.int .i64 b, .int .i64 l, .int .i64 d, .int .i64 m, .sl false (.int .i64) hs], .int .i64 x, .int .i64 y] => some (Cal b l d m hs ∧ 0 ≤ x ∧ 0 ≤ y, .int .i64 (cntS (fun h => bitB x h || bitB y h) hs : Int), [])
  | _ => none
set_option maxHeartbeats 1000000 in
theorem bRMany (b : Int) (l : Int) (d : Int) (m : Int) (hs : List Int) (x : Int) (y : Int) (hp0 : Cal b l d m hs) (hp1 : 0 ≤ x) (hp2 : 0 ≤ y) : bodyP (En CRSeen tys [] QAt) Try.f87 [.k] [.agg [.int .i64 b, .int .i64 l, .int .i64 d, .int .i64 m, .sl false (.int .i64) hs], .int .i64 x, .int .i64 y] (.int .i64 (cntS (fun h => bitB x h || bitB y h) hs : Int)) [] := by
  obtain ⟨q1, q2, q3, q4, q5, q6, q7, q8, q9, q10, q11⟩ := id hp0
  refine ⟨1, [(1, .k), (2, .k), (3, .k), (7, .k), (8, .k)], fun n vs H => ∃ (k : Nat), k ≤ hs.length ∧ n = hs.length - k ∧ vs = [.int .i64 x, .int .i64 y, .ptr 0 1 0 0, .int .i64 (cntS (fun h => bitB x h || bitB y h) (hs.take k) : Int), .int .i64 (k : Int)] ∧ H = [.cells [.int .i64 b, .int .i64 l, .int .i64 d, .int .i64 m, .sl false (.int .i64) hs]], ⟨rfl, hs.length, 0, by omega, by omega, rfl, rfl⟩, ?_⟩
  rintro n vs H ⟨k, hc1_0, rfl, rfl, rfl⟩
  refine ⟨fun h0 => ?_, fun h0 => ?_⟩
  · replace h0 : (k : Int) < (hs.length : Int) := h0
    have hkl : k < hs.length := by omega
    obtain ⟨g1, g2⟩ := hsF_at hs _ k q8 hkl
    have hle := cntS_le (fun h => bitB x h || bitB y h) (hs.take k)
    rw [List.length_take] at hle
    have e := cntS_snoc (fun h => bitB x h || bitB y h) (l := hs) (k := k) hkl
    refine ⟨⟨by show (0 : Int) ≤ (k : Int); omega, by show (k : Int) < (hs.length : Int); omega⟩, rfl, rfl, ⟨by show 0 ≤ x; first | omega | assumption, by show 0 ≤ (hs.getD k 0); first | omega | assumption, by show (hs.getD k 0) ≤ 64; first | omega | assumption⟩, ⟨by show (0 : Int) ≤ (k : Int); omega, by show (k : Int) < (hs.length : Int); omega⟩, rfl, rfl, ⟨by show 0 ≤ y; first | omega | assumption, by show 0 ≤ (hs.getD k 0); first | omega | assumption, by show (hs.getD k 0) ≤ 64; first | omega | assumption⟩, fun h1 => ?_, fun h1 => ?_⟩
    · replace h1 : ¬ (bitB x (hs.getD k 0).toNat = true) := h1
      refine ⟨fun h2 => ?_, fun h2 => ?_⟩
      · replace h2 : bitB y (hs.getD k 0).toNat = true := h2
        refine ⟨⟨by show (-9223372036854775808 : Int) ≤ ((cntS (fun h => bitB x h || bitB y h) (hs.take k) : Int) + 1); omega, by show ((cntS (fun h => bitB x h || bitB y h) (hs.take k) : Int) + 1) ≤ (9223372036854775807 : Int); omega⟩, ⟨by show (-9223372036854775808 : Int) ≤ ((k : Int) + 1); omega, by show ((k : Int) + 1) ≤ (9223372036854775807 : Int); omega⟩, ?_⟩
        first | rw [if_pos (by rw [h1]; rfl)] at e | rw [if_pos (by rw [h2, Bool.or_true])] at e | (rw [Bool.not_eq_true] at h1 h2; rw [h1, h2, if_neg (by decide)] at e)
        exact ⟨rfl, hs.length - (k + 1), by omega, k + 1, by omega, rfl, by rw [e]; rfl, rfl⟩
      · replace h2 : ¬ (bitB y (hs.getD k 0).toNat = true) := h2
        refine ⟨⟨by show (-9223372036854775808 : Int) ≤ ((k : Int) + 1); omega, by show ((k : Int) + 1) ≤ (9223372036854775807 : Int); omega⟩, ?_⟩
        first | rw [if_pos (by rw [h1]; rfl)] at e | rw [if_pos (by rw [h2, Bool.or_true])] at e | (rw [Bool.not_eq_true] at h1 h2; rw [h1, h2, if_neg (by decide)] at e)
        exact ⟨rfl, hs.length - (k + 1), by omega, k + 1, by omega, rfl, by rw [e]; rfl, rfl⟩
    · replace h1 : bitB x (hs.getD k 0).toNat = true := h1
      refine ⟨⟨by show (-9223372036854775808 : Int) ≤ ((cntS (fun h => bitB x h || bitB y h) (hs.take k) : Int) + 1); omega, by show ((cntS (fun h => bitB x h || bitB y h) (hs.take k) : Int) + 1) ≤ (9223372036854775807 : Int); omega⟩, ⟨by show (-9223372036854775808 : Int) ≤ ((k : Int) + 1); omega, by show ((k : Int) + 1) ≤ (9223372036854775807 : Int); omega⟩, ?_⟩
      first | rw [if_pos (by rw [h1]; rfl)] at e | rw [if_pos (by rw [h2, Bool.or_true])] at e | (rw [Bool.not_eq_true] at h1 h2; rw [h1, h2, if_neg (by decide)] at e)
      exact ⟨rfl, hs.length - (k + 1), by omega, k + 1, by omega, rfl, by rw [e]; rfl, rfl⟩
  · replace h0 : ¬ ((k : Int) < (hs.length : Int)) := h0
    obtain rfl : k = hs.length := by omega
    rw [List.take_length]
    exact ⟨rfl, rfl, rfl, rfl⟩
def CRMany : List (Nat × Con) := (87, pureC [.v (.cons (.int .i64) (.cons (.int .i64) (.cons (.int .i64) (.cons (.int .i64) (.cons (.sl (.int .i64)) .nil))))), .v (.int .i64), .v (.int .i64)] sRMany) :: CRSeen
theorem kRMany : Known Try.prog (En CRMany tys [] QAt) := kRSeen.add Try.func87 Try.call87 [.k] fun ds p v bs h hp => by
  unfold sRMany at h
  split at h <;> simp only [Option.some.injEq, Prod.mk.injEq, reduceCtorEq] at h
  obtain ⟨rfl, rfl, rfl⟩ := h
  exact bRMany _ _ _ _ _ _ _ hp.1 hp.2.1 hp.2.2
def sRTel : List V → Option (Prop × V × List Blk)
  | [.agg [.int .i64 b, .int .i64 l, .int .i64 d, .int .i64 m, .sl false (.int .i64) hs], .int .i64 bad, .sl false (.cons (.int .i64) (.cons (.int .i64) .nil)) a] => some (hs.length ≤ 2000000 ∧ a.length ≤ 2000000, .agg [.own (.int .i64) 0, .int .i64 (redL b l d m hs bad a)], [.row true (.int .i64) (telL b l d m hs bad a)])
  | _ => none
set_option maxHeartbeats 1000000 in
theorem bRTel (b : Int) (l : Int) (d : Int) (m : Int) (hs : List Int) (bad : Int) (a : List (Int × (Int × Unit))) (hp0 : hs.length ≤ 2000000) (hp1 : a.length ≤ 2000000) : bodyP (En CRMany tys [] QAt) Try.f34 [.o (.int .i64), .k] [.agg [.int .i64 b, .int .i64 l, .int .i64 d, .int .i64 m, .sl false (.int .i64) hs], .int .i64 bad, .sl false (.cons (.int .i64) (.cons (.int .i64) .nil)) a] (.agg [.own (.int .i64) 0, .int .i64 (redL b l d m hs bad a)]) [.row true (.int .i64) (telL b l d m hs bad a)] := by
  refine ⟨rfl, rfl, rfl, rfl, by show hs.length ≤ 2000000; first | omega | assumption, fun h0 => ?_, fun h0 => ?_⟩
  · replace h0 : (chkL b l d m hs) ≠ 0 := h0
    refine ⟨⟨rfl, rfl, rfl, Nat.le_of_ble_eq_true rfl⟩, ?_⟩
    have e : redL b l d m hs bad a = chkL b l d m hs := if_neg h0
    rw [show telL b l d m hs bad a = [] from if_neg (by rw [e]; exact h0), e]
    exact ⟨rfl, rfl, rfl, rfl⟩
  · replace h0 : ¬ ((chkL b l d m hs) ≠ 0) := h0
    refine ⟨fun h1 => ?_, fun h1 => ?_⟩
    · replace h1 : ¬ (bad < 0) := h1
      refine ⟨fun h2 => ?_, fun h2 => ?_⟩
      · replace h2 : 4095 < bad := h2
        refine ⟨⟨rfl, rfl, rfl, Nat.le_of_ble_eq_true rfl⟩, ?_⟩
        have e : redL b l d m hs bad a = 1 := by unfold redL; rw [if_pos (Classical.not_not.1 h0), if_neg (by omega)]
        rw [show telL b l d m hs bad a = [] from if_neg (by rw [e]; decide), e]
        exact ⟨rfl, rfl, rfl, rfl⟩
      · replace h2 : ¬ (4095 < bad) := h2
        refine ⟨by show a.length ≤ 2000000; first | omega | assumption, fun h3 => ?_, fun h3 => ?_⟩
        · replace h3 : (capL a) ≠ 0 := h3
          refine ⟨⟨rfl, rfl, rfl, Nat.le_of_ble_eq_true rfl⟩, ?_⟩
          have e : redL b l d m hs bad a = capL a := by unfold redL; rw [if_pos (Classical.not_not.1 h0), if_pos ⟨by omega, by omega⟩]
          rw [show telL b l d m hs bad a = [] from if_neg (by rw [e]; exact h3), e]
          exact ⟨rfl, rfl, rfl, rfl⟩
        · replace h3 : ¬ ((capL a) ≠ 0) := h3
          have hr : redL b l d m hs bad a = 0 := by unfold redL; rw [if_pos (Classical.not_not.1 h0), if_pos ⟨by omega, by omega⟩]; exact (Classical.not_not.1 h3)
          obtain ⟨hc, hb0, hb1, hca1, hca2⟩ := red0 hr
          obtain ⟨q1, q2, q3, q4, q5, q6, q7, q8, q9, q10, q11⟩ := id hc
          obtain ⟨N, hN⟩ : ∃ N : Nat, cntL b l d = (N : Int) := ⟨(cntL b l d).toNat, by omega⟩
          refine ⟨rfl, rfl, rfl, rfl, ⟨by show 0 ≤ b; first | omega | assumption, by show b ≤ l; first | omega | assumption, by show l ≤ 1000000; first | omega | assumption, by show 1 ≤ d; first | omega | assumption⟩, 2, [(1, .k), (2, .k), (3, .k), (6, .k), (8, .o (.int .i64)), (9, .k), (10, .k)], fun n vs H => ∃ (k : Nat), k ≤ N ∧ n = N - k ∧ vs = [.int .i64 bad, .sl false (.cons (.int .i64) (.cons (.int .i64) .nil)) a, .ptr 0 1 0 0, .ptr 1 1 0 0, .own (.int .i64) 2, .int .i64 (cntL b l d), .int .i64 (k : Int)] ∧ H = [.cells [.int .i64 b, .int .i64 l, .int .i64 d, .int .i64 m, .sl false (.int .i64) hs], .cells [.nils, .int .i64 0], .row true (.int .i64) (telG b l d m hs bad a k)], ⟨rfl, N, 0, by omega, by omega, rfl, rfl⟩, ?_⟩
          rintro n vs H ⟨k, hc1_0, rfl, rfl, rfl⟩
          refine ⟨fun h4 => ?_, fun h4 => ?_⟩
          · replace h4 : (k : Int) < (cntL b l d) := h4
            have htl := telG_len b l d m hs bad a k
            have hsv := sen_val hc (Classical.not_not.1 h3) (k := k) (by omega)
            have hmn := tel_many hc bad a k hsv
            refine ⟨rfl, rfl, rfl, rfl, rfl, ⟨by show hs.length ≤ 2000000; first | omega | assumption, by show a.length ≤ 2000000; first | omega | assumption⟩, ⟨rfl, rfl, rfl, Nat.le_of_ble_eq_true rfl⟩, rfl, rfl, rfl, rfl, rfl, rfl, ⟨by exact hc, by show 0 ≤ bad; first | omega | assumption, by exact sen_nonneg ..⟩, fun h5 => ?_, fun h5 => ?_⟩
            · replace h5 : m ≤ (cntS (fun h => bitB bad h || bitB (senL b l d m hs a (k : Int)) h) hs : Int) := h5
              rw [hmn] at h5
              have tp : telP b l d m hs bad a k = true := decide_eq_true h5
              refine ⟨rfl, ⟨rfl, rfl⟩, by show (telG b l d m hs bad a k).length + ([(k : Int)] : List Int).length ≤ 1000000000; simp only [List.length_cons, List.length_nil]; omega, ⟨by show (-9223372036854775808 : Int) ≤ ((k : Int) + 1); omega, by show ((k : Int) + 1) ≤ (9223372036854775807 : Int); omega⟩, ?_⟩
              first | exact ⟨rfl, N - (k + 1), by omega, k + 1, by omega, rfl, rfl, by rw [telG_succ, if_pos tp]; rfl⟩ | exact ⟨rfl, N - (k + 1), by omega, k + 1, by omega, rfl, rfl, by rw [telG_succ, if_neg tp, List.append_nil]; rfl⟩
            · replace h5 : ¬ (m ≤ (cntS (fun h => bitB bad h || bitB (senL b l d m hs a (k : Int)) h) hs : Int)) := h5
              rw [hmn] at h5
              have tp : ¬ telP b l d m hs bad a k = true := by unfold telP; rw [decide_eq_true_eq]; exact h5
              refine ⟨⟨by show (-9223372036854775808 : Int) ≤ ((k : Int) + 1); omega, by show ((k : Int) + 1) ≤ (9223372036854775807 : Int); omega⟩, ?_⟩
              first | exact ⟨rfl, N - (k + 1), by omega, k + 1, by omega, rfl, rfl, by rw [telG_succ, if_pos tp]; rfl⟩ | exact ⟨rfl, N - (k + 1), by omega, k + 1, by omega, rfl, rfl, by rw [telG_succ, if_neg tp, List.append_nil]; rfl⟩
          · replace h4 : ¬ ((k : Int) < (cntL b l d)) := h4
            refine ⟨⟨rfl, rfl, rfl, Nat.le_of_ble_eq_true rfl⟩, ?_⟩
            rw [show telL b l d m hs bad a = telG b l d m hs bad a k by rw [telL, if_pos hr, show (cntL b l d).toNat = k by omega], hr]
            exact ⟨rfl, rfl, rfl, rfl⟩
    · replace h1 : bad < 0 := h1
      refine ⟨⟨rfl, rfl, rfl, Nat.le_of_ble_eq_true rfl⟩, ?_⟩
      have e : redL b l d m hs bad a = 1 := by unfold redL; rw [if_pos (Classical.not_not.1 h0), if_neg (by omega)]
      rw [show telL b l d m hs bad a = [] from if_neg (by rw [e]; decide), e]
      exact ⟨rfl, rfl, rfl, rfl⟩
def CRTel : List (Nat × Con) := (34, pureC [.v (.cons (.int .i64) (.cons (.int .i64) (.cons (.int .i64) (.cons (.int .i64) (.cons (.sl (.int .i64)) .nil))))), .v (.int .i64), .v (.sl (.cons (.int .i64) (.cons (.int .i64) .nil)))] sRTel) :: CRMany
theorem kRTel : Known Try.prog (En CRTel tys [] QAt) := kRMany.add Try.func34 Try.call34 [.o (.int .i64), .k] fun ds p v bs h hp => by
  unfold sRTel at h
  split at h <;> simp only [Option.some.injEq, Prod.mk.injEq, reduceCtorEq] at h
  obtain ⟨rfl, rfl, rfl⟩ := h
  exact bRTel _ _ _ _ _ _ _ hp.1 hp.2
end Go.Proofs.Ytgljcfnplkcfhaa.S29

namespace Go.Proofs.Ytgljcfnplkcfhaa.S29
open Go Go.Proofs.Ytgljcfnplkcfhaa.Vc Go.Proofs
set_option maxRecDepth 100000
set_option linter.unusedVariables false

def sRSaf : List V → Option (Prop × V × List Blk)
  | [.agg [.int .i64 b, .int .i64 l, .int .i64 d, .int .i64 m, .sl false (.int .i64) hs], .int .i64 bad, .int .i64 w, .int .i64 mo] => some (hs.length ≤ 2000000, .agg [.b (safL b l d m hs bad w mo = true), .int .i64 (safE b l d m hs bad w mo)], [])
  | _ => none
set_option maxHeartbeats 2000000 in
theorem bRSaf (b : Int) (l : Int) (d : Int) (m : Int) (hs : List Int) (bad : Int) (w : Int) (mo : Int) (hp0 : hs.length ≤ 2000000) : bodyP (En CRTel tys [] QAt) Try.f41 [.k, .k] [.agg [.int .i64 b, .int .i64 l, .int .i64 d, .int .i64 m, .sl false (.int .i64) hs], .int .i64 bad, .int .i64 w, .int .i64 mo] (.agg [.b (safL b l d m hs bad w mo = true), .int .i64 (safE b l d m hs bad w mo)]) [] := by
  refine ⟨rfl, rfl, rfl, rfl, by show hs.length ≤ 2000000; first | omega | assumption, fun h0 => ?_, fun h0 => ?_⟩
  · replace h0 : (chkL b l d m hs) ≠ 0 := h0
    refine ⟨⟨rfl, rfl, rfl, Nat.le_of_ble_eq_true rfl⟩, ?_⟩
    have e1 : safE b l d m hs bad w mo = chkL b l d m hs := by unfold safE redL; rw [if_neg h0, if_neg h0]
    have e3 : (safL b l d m hs bad w mo = true) = False := propext ⟨fun h => (by rw [safL, decide_eq_false (by rw [e1]; exact h0), Bool.false_and] at h; cases h), fun h => h.elim⟩
    rw [e1, e3]
    exact ⟨rfl, rfl, rfl, rfl⟩
  · replace h0 : ¬ ((chkL b l d m hs) ≠ 0) := h0
    have hc := chk0 (Classical.not_not.1 h0)
    obtain ⟨q1, q2, q3, q4, q5, q6, q7, q8, q9, q10, q11⟩ := id hc
    have hkm := knw_many hc bad
    have hkl : (knwL b l d hs bad : Int) ≤ (hs.length : Int) := by have := knw_le hc bad; omega
    refine ⟨fun h1 => ?_, fun h1 => ?_⟩
    · replace h1 : ¬ (bad < 0) := h1
      refine ⟨fun h2 => ?_, fun h2 => ?_⟩
      · replace h2 : 4095 < bad := h2
        refine ⟨⟨rfl, rfl, rfl, Nat.le_of_ble_eq_true rfl⟩, ?_⟩
        have e1 : safE b l d m hs bad w mo = 1 := by have hr : redL b l d m hs bad [] = 1 := by { unfold redL; rw [if_pos (Classical.not_not.1 h0), if_neg (by omega)] }; unfold safE; rw [if_neg (by rw [hr]; decide)]; exact hr
        have e3 : (safL b l d m hs bad w mo = true) = False := propext ⟨fun h => (by rw [safL, decide_eq_false (by rw [e1]; first | exact h0 | decide), Bool.false_and] at h; cases h), fun h => h.elim⟩
        rw [e1, e3]
        exact ⟨rfl, rfl, rfl, rfl⟩
      · replace h2 : ¬ (4095 < bad) := h2
        refine ⟨fun h3 => ?_, fun h3 => ?_⟩
        · replace h3 : ¬ (w < 1) := h3
          refine ⟨fun h4 => ?_, fun h4 => ?_⟩
          · replace h4 : ¬ (1000000 < w) := h4
            refine ⟨fun h5 => ?_, fun h5 => ?_⟩
            · replace h5 : ¬ (mo < 0) := h5
              refine ⟨fun h6 => ?_, fun h6 => ?_⟩
              · replace h6 : 12 < mo := h6
                refine ⟨⟨rfl, rfl, rfl, Nat.le_of_ble_eq_true rfl⟩, ?_⟩
                have e1 : safE b l d m hs bad w mo = 3 := by have hr : redL b l d m hs bad [] = 0 := by { unfold redL; rw [if_pos (Classical.not_not.1 h0), if_pos ⟨by omega, by omega⟩]; rfl }; unfold safE; rw [if_pos hr, if_neg (by omega)]
                have e3 : (safL b l d m hs bad w mo = true) = False := propext ⟨fun h => (by rw [safL, decide_eq_false (by rw [e1]; first | exact h0 | decide), Bool.false_and] at h; cases h), fun h => h.elim⟩
                rw [e1, e3]
                exact ⟨rfl, rfl, rfl, rfl⟩
              · replace h6 : ¬ (12 < mo) := h6
                have hr : redL b l d m hs bad [] = 0 := by unfold redL; rw [if_pos (Classical.not_not.1 h0), if_pos ⟨by omega, by omega⟩]; rfl
                have e0 : safE b l d m hs bad w mo = 0 := by unfold safE; rw [if_pos hr, if_pos ⟨by omega, by omega, by omega, by omega⟩]
                refine ⟨rfl, rfl, rfl, rfl, ⟨by show 0 ≤ b; first | omega | assumption, by show b ≤ l; first | omega | assumption, by show l ≤ 1000000; first | omega | assumption, by show 1 ≤ d; first | omega | assumption⟩, rfl, rfl, rfl, rfl, rfl, rfl, ⟨by exact hc, by show 0 ≤ bad; first | omega | assumption, by omega⟩, 2, [(2, .k), (3, .k), (4, .k), (8, .k), (10, .k), (11, .k), (12, .k)], fun n vs H => ∃ (k : Nat), (k : Int) ≤ cntL b l d ∧ (List.range k).all (safQ b l d m hs bad w mo) = true ∧ n = (cntL b l d).toNat - k ∧ vs = [.int .i64 w, .int .i64 mo, .ptr 0 1 0 0, .ptr 1 1 0 0, .int .i64 (cntL b l d), .int .i64 (cntS (fun h => bitB bad h || bitB 0 h) hs : Int), .int .i64 (k : Int)] ∧ H = [.cells [.int .i64 b, .int .i64 l, .int .i64 d, .int .i64 m, .sl false (.int .i64) hs], .cells [.b False, .int .i64 0]], ⟨rfl, (cntL b l d).toNat, 0, by omega, rfl, by omega, rfl, rfl⟩, ?_⟩
                rintro n vs H ⟨k, hc1_0, hc1_1, rfl, rfl, rfl⟩
                refine ⟨fun h7 => ?_, fun h7 => ?_⟩
                · replace h7 : (k : Int) < (cntL b l d) := h7
                  have ea : askL b l d m hs (k : Int) = 0 := hc.ask (by omega) h7
                  obtain ⟨w1, w2, w3, w4, w5, w6, w7⟩ := win_ok (w := w) (mo := mo) hc (by omega) (by omega) (by omega) h7
                  have hA : (cntS (fun h => bitB bad h || bitB 0 h) hs : Int) = min (hs.length : Int) ((knwL b l d hs bad : Int) + mo * ((0 : Nat) : Int)) := by rw [hkm, show ((0 : Nat) : Int) = 0 from rfl, Int.mul_zero]; omega
                  have hB : (if askL b l d m hs (k : Int) = 0 then expF b d (k : Int) else 0) = expF b d (k : Int) + ((0 : Nat) : Int) * w := by rw [if_pos ea, show ((0 : Nat) : Int) = 0 from rfl, Int.zero_mul, Int.add_zero]
                  refine ⟨rfl, rfl, rfl, rfl, rfl, by show hs.length ≤ 2000000; first | omega | assumption, ⟨rfl, rfl, rfl, Nat.le_of_ble_eq_true rfl⟩, 3, [(2, .k), (3, .k), (4, .k), (8, .k), (10, .k), (11, .k), (12, .k), (13, .k), (14, .k), (15, .k)], fun n vs H => ∃ (j : Nat), (j : Int) ≤ winL b l d w k ∧ n = (winL b l d w k).toNat - j ∧ vs = [.int .i64 w, .int .i64 mo, .ptr 0 1 0 0, .ptr 1 1 0 0, .int .i64 (cntL b l d), .int .i64 (cntS (fun h => bitB bad h || bitB 0 h) hs : Int), .int .i64 (k : Int), .ptr 2 1 0 0, .int .i64 (min (hs.length : Int) ((knwL b l d hs bad : Int) + mo * (j : Int))), .int .i64 (expF b d k + (j : Int) * w)] ∧ H = [.cells [.int .i64 b, .int .i64 l, .int .i64 d, .int .i64 m, .sl false (.int .i64) hs], .cells [.b False, .int .i64 0], .cells [.int .i64 (if askL b l d m hs (k : Int) = 0 then expF b d (k : Int) else 0), .int .i64 (if askL b l d m hs (k : Int) = 0 then expT b l d (k : Int) else 0), .int .i64 (askL b l d m hs (k : Int))]], ⟨rfl, (winL b l d w k).toNat, 0, by unfold winL; omega, by omega, by rw [hA, hB]; rfl, rfl⟩, ?_⟩
                  rintro n vs H ⟨j, hc2_0, rfl, rfl, rfl⟩
                  have hmj : 0 ≤ mo * (j : Int) := Int.mul_nonneg (by omega) (by omega)
                  have hmJ : mo * (j : Int) ≤ 20000000 := Int.le_trans (Int.mul_le_mul_of_nonneg_left hc2_0 (by omega)) w7
                  have hjw : 0 ≤ (j : Int) * w := Int.mul_nonneg (by omega) (by omega)
                  refine ⟨fun h8 => ?_, fun h8 => ?_⟩
                  · replace h8 : (expF b d k + (j : Int) * w) ≤ (min (if askL b l d m hs (k : Int) = 0 then expT b l d (k : Int) else 0) 1000000) := h8
                    rw [if_pos ea] at h8
                    have hin := (win_in (b := b) (l := l) (d := d) (q := k) (j := j) (by omega : 1 ≤ w)).1 h8
                    have hmn := mul_next mo j
                    have hmw := mul_next' w j
                    refine ⟨fun h9 => ?_, fun h9 => ?_⟩
                    · replace h9 : (min (hs.length : Int) ((knwL b l d hs bad : Int) + mo * (j : Int))) < (hs.length : Int) := h9
                      refine ⟨⟨by show (-9223372036854775808 : Int) ≤ ((min (hs.length : Int) ((knwL b l d hs bad : Int) + mo * (j : Int))) + mo); omega, by show ((min (hs.length : Int) ((knwL b l d hs bad : Int) + mo * (j : Int))) + mo) ≤ (9223372036854775807 : Int); omega⟩, fun h10 => ?_, fun h10 => ?_⟩
                      · replace h10 : mo = 0 := h10
                        have e : min (hs.length : Int) ((min (hs.length : Int) ((knwL b l d hs bad : Int) + mo * (j : Int))) + mo) = (knwL b l d hs bad : Int) + min ((hs.length : Int) - (knwL b l d hs bad : Int)) (mo * winL b l d w k) := by rw [h10, Int.zero_mul, Int.zero_mul]; omega
                        refine ⟨fun h11 => ?_, fun h11 => ?_⟩
                        · replace h11 : m ≤ (min (hs.length : Int) ((min (hs.length : Int) ((knwL b l d hs bad : Int) + mo * (j : Int))) + mo)) := h11
                          have e2 : safL b l d m hs bad w mo = false := by
                            rw [e] at h11
                            rw [safL, range_all_bad (k := k) (by omega) (decide_eq_false (by omega)), Bool.and_false]
                          have e3 : (safL b l d m hs bad w mo = true) = False := propext ⟨fun h => (by rw [e2] at h; cases h), fun h => h.elim⟩
                          refine ⟨⟨rfl, rfl, rfl, Nat.le_of_ble_eq_true rfl⟩, ?_⟩
                          rw [e0, e3]
                          exact ⟨rfl, rfl, rfl, rfl⟩
                        · replace h11 : ¬ (m ≤ (min (hs.length : Int) ((min (hs.length : Int) ((knwL b l d hs bad : Int) + mo * (j : Int))) + mo))) := h11
                          have e2 : safQ b l d m hs bad w mo k = true := by
                            rw [e] at h11
                            exact decide_eq_true (by omega)
                          refine ⟨⟨by show (-9223372036854775808 : Int) ≤ ((k : Int) + 1); omega, by show ((k : Int) + 1) ≤ (9223372036854775807 : Int); omega⟩, ?_⟩
                          exact ⟨rfl, (cntL b l d).toNat - (k + 1), by omega, k + 1, by omega, by rw [range_all_succ, hc1_1, e2]; rfl, rfl, rfl, rfl⟩
                      · replace h10 : ¬ (mo = 0) := h10
                        have hC : min (hs.length : Int) ((min (hs.length : Int) ((knwL b l d hs bad : Int) + mo * (j : Int))) + mo) = min (hs.length : Int) ((knwL b l d hs bad : Int) + mo * ((j + 1 : Nat) : Int)) := by rw [hmn]; omega
                        have hD : expF b d (k : Int) + (j : Int) * w + w = expF b d (k : Int) + ((j + 1 : Nat) : Int) * w := by rw [hmw]; omega
                        refine ⟨⟨by show (-9223372036854775808 : Int) ≤ ((expF b d k + (j : Int) * w) + w); omega, by show ((expF b d k + (j : Int) * w) + w) ≤ (9223372036854775807 : Int); omega⟩, ?_⟩
                        exact ⟨rfl, (winL b l d w k).toNat - (j + 1), by omega, j + 1, by omega, rfl, by rw [hC, hD]; rfl, rfl⟩
                    · replace h9 : ¬ ((min (hs.length : Int) ((knwL b l d hs bad : Int) + mo * (j : Int))) < (hs.length : Int)) := h9
                      have e := win_end (len := (hs.length : Int)) (kn := (knwL b l d hs bad : Int)) (mo := mo) (W := winL b l d w k) (j := j) (by omega) hc2_0 hkl (.inr (by omega))
                      refine ⟨fun h12 => ?_, fun h12 => ?_⟩
                      · replace h12 : m ≤ (min (hs.length : Int) ((knwL b l d hs bad : Int) + mo * (j : Int))) := h12
                        have e2 : safL b l d m hs bad w mo = false := by
                          rw [e] at h12
                          rw [safL, range_all_bad (k := k) (by omega) (decide_eq_false (by omega)), Bool.and_false]
                        have e3 : (safL b l d m hs bad w mo = true) = False := propext ⟨fun h => (by rw [e2] at h; cases h), fun h => h.elim⟩
                        refine ⟨⟨rfl, rfl, rfl, Nat.le_of_ble_eq_true rfl⟩, ?_⟩
                        rw [e0, e3]
                        exact ⟨rfl, rfl, rfl, rfl⟩
                      · replace h12 : ¬ (m ≤ (min (hs.length : Int) ((knwL b l d hs bad : Int) + mo * (j : Int)))) := h12
                        have e2 : safQ b l d m hs bad w mo k = true := by
                          rw [e] at h12
                          exact decide_eq_true (by omega)
                        refine ⟨⟨by show (-9223372036854775808 : Int) ≤ ((k : Int) + 1); omega, by show ((k : Int) + 1) ≤ (9223372036854775807 : Int); omega⟩, ?_⟩
                        exact ⟨rfl, (cntL b l d).toNat - (k + 1), by omega, k + 1, by omega, by rw [range_all_succ, hc1_1, e2]; rfl, rfl, rfl, rfl⟩
                  · replace h8 : ¬ ((expF b d k + (j : Int) * w) ≤ (min (if askL b l d m hs (k : Int) = 0 then expT b l d (k : Int) else 0) 1000000)) := h8
                    rw [if_pos ea] at h8
                    have hin : ¬ (j : Int) < winL b l d w k := fun g => h8 ((win_in (by omega)).2 g)
                    have e := win_end (len := (hs.length : Int)) (kn := (knwL b l d hs bad : Int)) (mo := mo) (W := winL b l d w k) (j := j) (by omega) hc2_0 hkl (.inl (by omega))
                    refine ⟨fun h13 => ?_, fun h13 => ?_⟩
                    · replace h13 : m ≤ (min (hs.length : Int) ((knwL b l d hs bad : Int) + mo * (j : Int))) := h13
                      have e2 : safL b l d m hs bad w mo = false := by
                        rw [e] at h13
                        rw [safL, range_all_bad (k := k) (by omega) (decide_eq_false (by omega)), Bool.and_false]
                      have e3 : (safL b l d m hs bad w mo = true) = False := propext ⟨fun h => (by rw [e2] at h; cases h), fun h => h.elim⟩
                      refine ⟨⟨rfl, rfl, rfl, Nat.le_of_ble_eq_true rfl⟩, ?_⟩
                      rw [e0, e3]
                      exact ⟨rfl, rfl, rfl, rfl⟩
                    · replace h13 : ¬ (m ≤ (min (hs.length : Int) ((knwL b l d hs bad : Int) + mo * (j : Int)))) := h13
                      have e2 : safQ b l d m hs bad w mo k = true := by
                        rw [e] at h13
                        exact decide_eq_true (by omega)
                      refine ⟨⟨by show (-9223372036854775808 : Int) ≤ ((k : Int) + 1); omega, by show ((k : Int) + 1) ≤ (9223372036854775807 : Int); omega⟩, ?_⟩
                      exact ⟨rfl, (cntL b l d).toNat - (k + 1), by omega, k + 1, by omega, by rw [range_all_succ, hc1_1, e2]; rfl, rfl, rfl, rfl⟩
                · replace h7 : ¬ ((k : Int) < (cntL b l d)) := h7
                  refine ⟨⟨rfl, rfl, rfl, Nat.le_of_ble_eq_true rfl⟩, ?_⟩
                  have e2 : safL b l d m hs bad w mo = true := by rw [safL, decide_eq_true e0, Bool.true_and, show (cntL b l d).toNat = k by omega]; exact hc1_1
                  rw [e0, e2]
                  exact ⟨rfl, rfl, rfl, rfl⟩
            · replace h5 : mo < 0 := h5
              refine ⟨⟨rfl, rfl, rfl, Nat.le_of_ble_eq_true rfl⟩, ?_⟩
              have e1 : safE b l d m hs bad w mo = 3 := by have hr : redL b l d m hs bad [] = 0 := by { unfold redL; rw [if_pos (Classical.not_not.1 h0), if_pos ⟨by omega, by omega⟩]; rfl }; unfold safE; rw [if_pos hr, if_neg (by omega)]
              have e3 : (safL b l d m hs bad w mo = true) = False := propext ⟨fun h => (by rw [safL, decide_eq_false (by rw [e1]; first | exact h0 | decide), Bool.false_and] at h; cases h), fun h => h.elim⟩
              rw [e1, e3]
              exact ⟨rfl, rfl, rfl, rfl⟩
          · replace h4 : 1000000 < w := h4
            refine ⟨⟨rfl, rfl, rfl, Nat.le_of_ble_eq_true rfl⟩, ?_⟩
            have e1 : safE b l d m hs bad w mo = 3 := by have hr : redL b l d m hs bad [] = 0 := by { unfold redL; rw [if_pos (Classical.not_not.1 h0), if_pos ⟨by omega, by omega⟩]; rfl }; unfold safE; rw [if_pos hr, if_neg (by omega)]
            have e3 : (safL b l d m hs bad w mo = true) = False := propext ⟨fun h => (by rw [safL, decide_eq_false (by rw [e1]; first | exact h0 | decide), Bool.false_and] at h; cases h), fun h => h.elim⟩
            rw [e1, e3]
            exact ⟨rfl, rfl, rfl, rfl⟩
        · replace h3 : w < 1 := h3
          refine ⟨⟨rfl, rfl, rfl, Nat.le_of_ble_eq_true rfl⟩, ?_⟩
          have e1 : safE b l d m hs bad w mo = 3 := by have hr : redL b l d m hs bad [] = 0 := by { unfold redL; rw [if_pos (Classical.not_not.1 h0), if_pos ⟨by omega, by omega⟩]; rfl }; unfold safE; rw [if_pos hr, if_neg (by omega)]
          have e3 : (safL b l d m hs bad w mo = true) = False := propext ⟨fun h => (by rw [safL, decide_eq_false (by rw [e1]; first | exact h0 | decide), Bool.false_and] at h; cases h), fun h => h.elim⟩
          rw [e1, e3]
          exact ⟨rfl, rfl, rfl, rfl⟩
    · replace h1 : bad < 0 := h1
      refine ⟨⟨rfl, rfl, rfl, Nat.le_of_ble_eq_true rfl⟩, ?_⟩
      have e1 : safE b l d m hs bad w mo = 1 := by have hr : redL b l d m hs bad [] = 1 := by { unfold redL; rw [if_pos (Classical.not_not.1 h0), if_neg (by omega)] }; unfold safE; rw [if_neg (by rw [hr]; decide)]; exact hr
      have e3 : (safL b l d m hs bad w mo = true) = False := propext ⟨fun h => (by rw [safL, decide_eq_false (by rw [e1]; first | exact h0 | decide), Bool.false_and] at h; cases h), fun h => h.elim⟩
      rw [e1, e3]
      exact ⟨rfl, rfl, rfl, rfl⟩
def CRSaf : List (Nat × Con) := (41, pureC [.v (.cons (.int .i64) (.cons (.int .i64) (.cons (.int .i64) (.cons (.int .i64) (.cons (.sl (.int .i64)) .nil))))), .v (.int .i64), .v (.int .i64), .v (.int .i64)] sRSaf) :: CRTel
theorem kRSaf : Known Try.prog (En CRSaf tys [] QAt) := kRTel.add Try.func41 Try.call41 [.k, .k] fun ds p v bs h hp => by
  unfold sRSaf at h
  split at h <;> simp only [Option.some.injEq, Prod.mk.injEq, reduceCtorEq] at h
  obtain ⟨rfl, rfl, rfl⟩ := h
  exact bRSaf _ _ _ _ _ _ _ _ hp
end Go.Proofs.Ytgljcfnplkcfhaa.S29

namespace Go.Proofs.Ytgljcfnplkcfhaa.S29
open Go

/-! ### a later last tick -/
theorem cnt_mono {b l x d : Int} (hd : 1 ≤ d) (h : l ≤ x) : cntL b l d ≤ cntL b x d := by
  have := Int.ediv_le_ediv (by omega : 0 < d) (by omega : l - b ≤ x - b)
  unfold cntL; omega
theorem spanT_mono {b l x d q : Int} (h : l ≤ x) : spanT b l d q ≤ spanT b x d q := by unfold spanT; omega
theorem expT_mono {b l x d q : Int} (h : l ≤ x) : expT b l d q ≤ expT b x d q := by unfold expT; omega
theorem span_same {b l x d m : Int} {hs : List Int} (hc : Cal b l d m hs) (h : l ≤ x) {q : Int} (h0 : 0 ≤ q) (h1 : q + 1 < cntL b l d) : spanT b l d q = spanT b x d q ∧ expT b l d q = expT b x d q := by
  obtain ⟨z1, z2, z3⟩ := hc.qn (q := q + 1) (by omega) h1
  rw [Int.add_mul, Int.one_mul] at z2
  unfold spanT expT
  omega
theorem exB_mono {b l x d t q : Int} (h : l ≤ x) (hx : exB b l d t q = true) : exB b x d t q = true := by
  have e := of_decide_eq_true hx
  have := expT_mono (b := b) (d := d) (q := q) h
  exact decide_eq_true ⟨e.1, by omega⟩
theorem seenC_mono {b l x d : Int} {hs : List Int} {bad : Int} {a : List Cp} {q h : Nat} (hl : l ≤ x) (hx : seenC b l d hs bad a q h = true) : seenC b x d hs bad a q h = true := by
  unfold seenC at *
  rw [Bool.and_eq_true, Bool.or_eq_true] at *
  refine ⟨hx.1, hx.2.imp_right fun g => ?_⟩
  rw [List.any_eq_true] at *
  obtain ⟨y, hy, e⟩ := g
  refine ⟨y, hy, ?_⟩
  unfold capIn at *
  rw [Bool.and_eq_true] at *
  exact ⟨e.1, exB_mono hl e.2⟩
theorem telP_mono {b l x d m : Int} {hs : List Int} {bad : Int} {a : List Cp} {q : Nat} (hl : l ≤ x) (hx : telP b l d m hs bad a q = true) : telP b x d m hs bad a q = true := by
  have e := of_decide_eq_true hx
  have := cntF_mono (f := seenC b l d hs bad a q) (g := seenC b x d hs bad a q) 12 fun i _ h => seenC_mono hl h
  exact decide_eq_true (by omega)
theorem red_eq {b l x d m : Int} {hs : List Int} (hc : Cal b l d m hs) (hx : Cal b x d m hs) (bad : Int) (a : List Cp) : redL b x d m hs bad a = redL b l d m hs bad a := by
  unfold redL; rw [hc.chk, hx.chk]
theorem mem_tel {b l d m : Int} {hs : List Int} {bad : Int} {a : List Cp} (hr : redL b l d m hs bad a = 0) {q : Nat} (hq : (q : Int) < cntL b l d) (ht : telP b l d m hs bad a q = true) : (q : Int) ∈ telL b l d m hs bad a := by
  unfold telL telG
  rw [if_pos hr]
  exact List.mem_map.2 ⟨q, List.mem_filter.2 ⟨List.mem_range.2 (by omega), ht⟩, rfl⟩
theorem tel_sub {b l x d m : Int} {hs : List Int} (hc : Cal b l d m hs) (hx : Cal b x d m hs) (hl : l ≤ x) (bad : Int) (a : List Cp) : ∀ q ∈ telL b l d m hs bad a, q ∈ telL b x d m hs bad a := by
  intro q hq
  obtain ⟨h1, h2, h3, h4⟩ := tel_mem hq
  have e : ((q.toNat : Nat) : Int) = q := by omega
  have := mem_tel (b := b) (l := x) (d := d) (m := m) (hs := hs) (bad := bad) (a := a) (by rw [red_eq hc hx]; exact h1) (q := q.toNat) (by have := cnt_mono (b := b) hc.n1 hl; omega) (telP_mono hl h4)
  rwa [e] at this

def Srt (l : List Int) : Prop := ∀ i j, i < j → j < l.length → l.getD i 0 < l.getD j 0
theorem srt_of {l : List Int} (h : l.Pairwise (· < ·)) : Srt l := by
  intro i j hij hj
  have := List.pairwise_iff_getElem.1 h i j (by omega) hj hij
  simpa [List.getD_eq_getElem?_getD, (by omega : i < l.length), hj] using this
theorem tel_pw (b l d m : Int) (hs : List Int) (bad : Int) (a : List Cp) : (telL b l d m hs bad a).Pairwise (· < ·) := by
  unfold telL
  split
  · unfold telG
    rw [List.pairwise_map]
    refine List.Pairwise.imp ?_ (List.Pairwise.filter _ (List.pairwise_lt_range))
    intro i j h
    exact Int.ofNat_lt.2 h
  · exact .nil
theorem tel_srt (b l d m : Int) (hs : List Int) (bad : Int) (a : List Cp) : Srt (telL b l d m hs bad a) := srt_of (tel_pw b l d m hs bad a)
def SubF (S T : List Int) (k i : Nat) : Prop := ∀ j, k ≤ j → j < S.length → ∃ p, i ≤ p ∧ p < T.length ∧ T.getD p 0 = S.getD j 0
theorem mem_getD {x : Int} {l : List Int} (h : x ∈ l) : ∃ p, p < l.length ∧ l.getD p 0 = x := by
  obtain ⟨p, hp, e⟩ := List.getElem_of_mem h
  exact ⟨p, hp, by simp [List.getD_eq_getElem?_getD, hp, e]⟩
theorem sub_start {S T : List Int} (h : ∀ q ∈ S, q ∈ T) : SubF S T 0 0 := fun j _ hj => by
  obtain ⟨p, h1, h2⟩ := mem_getD (h _ (getD_mem 0 S j hj))
  exact ⟨p, Nat.zero_le _, h1, h2⟩
theorem sub_next {S T : List Int} {k i : Nat} (h : SubF S T k i) : SubF S T (k + 1) i := fun j hj hl => h j (by omega) hl
theorem sub_skip {S T : List Int} {k i : Nat} (hS : Srt S) (h : SubF S T k i) (hk : k < S.length) (hlt : T.getD i 0 < S.getD k 0) : SubF S T k (i + 1) := fun j hj hl => by
  obtain ⟨p, h1, h2, h3⟩ := h j hj hl
  refine ⟨p, ?_, h2, h3⟩
  rcases Nat.lt_or_ge i p with g | g
  · exact g
  · have : i = p := by omega
    subst this
    rcases Nat.lt_or_ge k j with g2 | g2
    · have := hS k j g2 hl; omega
    · have : k = j := by omega
      subst this
      omega
theorem sub_hit {S T : List Int} {k i : Nat} (hT : Srt T) (h : SubF S T k i) (hk : k < S.length) (hge : i < T.length → ¬ T.getD i 0 < S.getD k 0) : i < T.length ∧ T.getD i 0 = S.getD k 0 := by
  obtain ⟨p, h1, h2, h3⟩ := h k (Nat.le_refl _) hk
  refine ⟨by omega, ?_⟩
  rcases Nat.lt_or_ge i p with g | g
  · have := hT i p g h2; have := hge (by omega); omega
  · have : i = p := by omega
    subst this; exact h3
theorem ext_ok {b l d m x : Int} {hs : List Int} (hc : Cal b l d m hs) (h : extE b l d m hs x = 0) : l ≤ x ∧ Cal b x d m hs := by
  unfold extE at h
  rw [if_pos hc.chk] at h
  split at h
  · omega
  · exact ⟨by omega, chk0 h⟩
theorem ext_four {b l d m x : Int} {hs : List Int} (hE : extE b l d m hs x = (if x ≤ l then 4 else chkL b x d m hs)) : x ≤ l ↔ extE b l d m hs x = 4 := by
  rw [hE]
  split
  · simp_all
  · constructor
    · intro h; omega
    · intro h
      unfold chkL at h
      repeat' split at h
      all_goals omega
end Go.Proofs.Ytgljcfnplkcfhaa.S29

namespace Go.Proofs.Ytgljcfnplkcfhaa.S29
open Go

/-! ### captures that are limited in each window -/
def winP (t w : Int) (y : Cp) : Bool := decide (t ≤ y.2.1 ∧ y.2.1 < t + w)
def winC (a : List Cp) (t w : Int) : Nat := a.countP (winP t w)
def alwB (a : List Cp) (w mo : Int) : Bool := a.all fun x => decide ((winC a x.2.1 w : Int) ≤ mo)
theorem winC_le (a : List Cp) (t w : Int) : winC a t w ≤ a.length := List.countP_le_length
theorem countP_snoc {α : Type} (d : α) (p : α → Bool) (l : List α) {k : Nat} (hk : k < l.length) : (l.take (k + 1)).countP p = (l.take k).countP p + (if p (l.getD k d) = true then 1 else 0) := by
  rw [take_snoc d l k hk, List.countP_append, List.countP_singleton]

theorem min_tick : ∀ (a : List Cp) (p : Cp → Bool), (∃ x ∈ a, p x = true) → ∃ x ∈ a, p x = true ∧ ∀ y ∈ a, p y = true → x.2.1 ≤ y.2.1
  | [], p, h => by obtain ⟨x, hx, _⟩ := h; simp at hx
  | z :: a, p, h => by
    by_cases h2 : ∃ x ∈ a, p x = true
    · obtain ⟨x, hx, hp, hm⟩ := min_tick a p h2
      by_cases hz : p z = true
      · by_cases hc : z.2.1 ≤ x.2.1
        · refine ⟨z, by simp, hz, fun y hy hpy => ?_⟩
          rcases List.mem_cons.1 hy with rfl | hy
          · exact Int.le_refl _
          · have := hm y hy hpy; omega
        · refine ⟨x, by simp [hx], hp, fun y hy hpy => ?_⟩
          rcases List.mem_cons.1 hy with rfl | hy
          · omega
          · exact hm y hy hpy
      · refine ⟨x, by simp [hx], hp, fun y hy hpy => ?_⟩
        rcases List.mem_cons.1 hy with rfl | hy
        · exact absurd hpy hz
        · exact hm y hy hpy
    · obtain ⟨x, hx, hp⟩ := h
      rcases List.mem_cons.1 hx with rfl | hx
      · refine ⟨x, by simp, hp, fun y hy hpy => ?_⟩
        rcases List.mem_cons.1 hy with rfl | hy
        · exact Int.le_refl _
        · exact absurd ⟨y, hy, hpy⟩ h2
      · exact absurd ⟨x, hx, hp⟩ h2
theorem win_any {a : List Cp} {w mo : Int} (h : alwB a w mo = true) (h0 : 0 ≤ mo) (t : Int) : (winC a t w : Int) ≤ mo := by
  by_cases hx : ∃ x ∈ a, winP t w x = true
  · obtain ⟨x, hx, hp, hm⟩ := min_tick a _ hx
    have h1 := of_decide_eq_true (List.all_eq_true.1 h x hx)
    have h2 : winC a t w ≤ winC a x.2.1 w := List.countP_mono_left fun y hy hpy => by
      have e1 := of_decide_eq_true hpy
      have e2 := of_decide_eq_true hp
      exact decide_eq_true ⟨hm y hy hpy, by omega⟩
    omega
  · have : winC a t w = 0 := List.countP_eq_zero.2 fun y hy hpy => hx ⟨y, hy, hpy⟩
    omega
theorem winC_split (t w : Int) (k : Nat) : ∀ a : List Cp, winC a t (((k + 1 : Nat) : Int) * w) ≤ winC a t (k * w) + winC a (t + k * w) w
  | [] => Nat.zero_le _
  | y :: a => by
    have ih := winC_split t w k a
    unfold winC at *
    rw [List.countP_cons, List.countP_cons, List.countP_cons]
    have e := mul_next' w k
    have : winP t (((k + 1 : Nat) : Int) * w) y = true → winP t (k * w) y = true ∨ winP (t + k * w) w y = true := fun g => by
      have g := of_decide_eq_true g
      rw [e] at g
      by_cases hc : y.2.1 < t + k * w
      · exact .inl (decide_eq_true ⟨g.1, hc⟩)
      · exact .inr (decide_eq_true ⟨by omega, by omega⟩)
    by_cases g : winP t (((k + 1 : Nat) : Int) * w) y = true
    · rw [if_pos g]
      rcases this g with g | g <;> rw [if_pos g] <;> omega
    · rw [if_neg g]; omega
theorem win_many {a : List Cp} {w mo : Int} (h : alwB a w mo = true) (h0 : 0 ≤ mo) (t : Int) : ∀ k : Nat, (winC a t (k * w) : Int) ≤ mo * k
  | 0 => by
    have : winC a t (((0 : Nat) : Int) * w) = 0 := List.countP_eq_zero.2 fun y hy hpy => by
      have e := of_decide_eq_true hpy
      rw [show ((0 : Nat) : Int) = 0 from rfl, Int.zero_mul] at e
      omega
    rw [this]; simp
  | k + 1 => by
    have h1 := win_many h h0 t k
    have h2 := win_any h h0 (t + k * w)
    have h3 := winC_split t w k a
    rw [mul_next]
    omega

theorem cntF_or_le (f g : Nat → Bool) : ∀ k, cntF (fun i => f i || g i) k ≤ cntF f k + cntF g k
  | 0 => Nat.le_refl _
  | k + 1 => by
    have := cntF_or_le f g k
    rw [cntF, cntF, cntF]
    cases f k <;> cases g k <;> simp <;> omega
theorem cntF_eq_le (x : Int) (p : Bool) : ∀ k, cntF (fun i => decide (x = (i : Int)) && p) k ≤ (if p = true then 1 else 0) ∧ (x < 0 ∨ (k : Int) ≤ x → cntF (fun i => decide (x = (i : Int)) && p) k = 0)
  | 0 => by simp [cntF]
  | k + 1 => by
    obtain ⟨h1, h2⟩ := cntF_eq_le x p k
    rw [cntF]
    by_cases e : x = (k : Int)
    · rw [h2 (.inr (by omega))]
      constructor
      · cases p <;> simp [e]
      · intro h; omega
    · have : (decide (x = (k : Int)) && p) = false := by rw [decide_eq_false e, Bool.false_and]
      rw [if_neg (by rw [this]; simp), Nat.add_zero]
      exact ⟨h1, fun h => h2 (by omega)⟩
theorem cnt_any (b l d : Int) (q : Nat) : ∀ a : List Cp, cntF (fun h => a.any (capIn b l d q h)) 12 ≤ a.countP fun x => exB b l d x.2.1 q
  | [] => by simp; rfl
  | x :: a => by
    have h1 := cnt_any b l d q a
    have h2 := cntF_or_le (fun h => capIn b l d q h x) (fun h => a.any (capIn b l d q h)) 12
    have h3 := (cntF_eq_le x.1 (exB b l d x.2.1 q) 12).1
    rw [List.countP_cons]
    have e : (fun h => (x :: a).any (capIn b l d q h)) = fun h => (capIn b l d q h x || a.any (capIn b l d q h)) := by funext h; rw [List.any_cons]
    rw [e]
    have e2 : cntF (fun h => capIn b l d q h x) 12 = cntF (fun i => decide (x.1 = (i : Int)) && exB b l d x.2.1 q) 12 := rfl
    omega
theorem seen_len {b l d m : Int} {hs : List Int} (hc : Cal b l d m hs) (bad : Int) (a : List Cp) (q : Nat) : cntF (seenC b l d hs bad a q) 12 ≤ hs.length := by
  have e := cntS_eq (fun h => bitB bad h || a.any (capIn b l d q h)) hs (-1) hc.ho
  have : cntF (seenC b l d hs bad a q) 12 = cntF (fun i => hs.contains (i : Int) && (bitB bad i || a.any (capIn b l d q i))) 12 := rfl
  rw [this, ← e]
  exact cntS_le _ _
theorem seen_le (b l d : Int) (hs : List Int) (bad : Int) (a : List Cp) (q : Nat) : cntF (seenC b l d hs bad a q) 12 ≤ cntF (seenC b l d hs bad [] q) 12 + a.countP fun x => exB b l d x.2.1 q := by
  have h1 := cnt_any b l d q a
  have h2 := cntF_or_le (seenC b l d hs bad [] q) (fun h => a.any (capIn b l d q h)) 12
  have h3 := cntF_mono (f := seenC b l d hs bad a q) (g := fun h => seenC b l d hs bad [] q h || a.any (capIn b l d q h)) 12 fun i _ h => by
    unfold seenC at *
    revert h
    cases hs.contains (i : Int) <;> cases bitB bad i <;> cases a.any (capIn b l d q i) <;> simp
  omega
theorem knw_same (b l d : Int) (hs : List Int) (bad : Int) (q : Nat) : cntF (seenC b l d hs bad [] q) 12 = knwL b l d hs bad := rfl

theorem safe_told {b l d m : Int} {hs : List Int} {bad w mo : Int} {a : List Cp} (hs1 : safL b l d m hs bad w mo = true) (hr : redL b l d m hs bad a = 0) (ha : alwB a w mo = true) : telL b l d m hs bad a = [] := by
  apply List.eq_nil_iff_forall_not_mem.2
  intro q hq
  obtain ⟨_, h2, h3, h4⟩ := tel_mem hq
  obtain ⟨hc, _, _, _, hcap⟩ := red0 hr
  unfold safL at hs1
  rw [Bool.and_eq_true] at hs1
  obtain ⟨hs1, hs2⟩ := hs1
  have hs1 := of_decide_eq_true hs1
  have hwm : 1 ≤ w ∧ w ≤ 1000000 ∧ 0 ≤ mo ∧ mo ≤ 12 := by
    unfold safE at hs1
    split at hs1
    · split at hs1
      · rename_i g; exact ⟨g.1, g.2.1, g.2.2.1, g.2.2.2⟩
      · omega
    · contradiction
  have hsq := of_decide_eq_true (List.all_eq_true.1 hs2 q.toNat (List.mem_range.2 (by omega)))
  have htp := of_decide_eq_true h4
  have e1 := seen_len hc bad a q.toNat
  have e2 := seen_le b l d hs bad a q.toNat
  rw [knw_same] at e2
  have e3 : a.countP (fun x => exB b l d x.2.1 q.toNat) ≤ winC a (expF b d q.toNat) ((winL b l d w q.toNat).toNat * w) := List.countP_mono_left fun y hy hpy => by
    have g := of_decide_eq_true hpy
    have g2 := capB_ok (hcap y hy)
    refine decide_eq_true ⟨g.1, ?_⟩
    have hx : 0 ≤ min (expT b l d q.toNat) 1000000 - expF b d q.toNat := by omega
    have g3 := Int.ediv_nonneg hx (by omega : 0 ≤ w)
    have g4 := Int.lt_ediv_add_one_mul_self (min (expT b l d q.toNat) 1000000 - expF b d q.toNat) (by omega : 0 < w)
    have g5 : ((winL b l d w q.toNat).toNat : Int) = (min (expT b l d q.toNat) 1000000 - expF b d q.toNat) / w + 1 := by unfold winL; omega
    rw [g5]
    omega
  have e4 := win_many ha hwm.2.2.1 (expF b d q.toNat) (winL b l d w q.toNat).toNat
  obtain ⟨w1, w2, w3, w4, w5, w6, w7⟩ := win_ok (w := w) (mo := mo) hc hwm.1 hwm.2.2.1 hwm.2.2.2 (q := q.toNat) (by omega)
  have e5 : ((winL b l d w q.toNat).toNat : Int) = winL b l d w q.toNat := by unfold winL; omega
  have e6 : mo * ((winL b l d w q.toNat).toNat : Int) = mo * winL b l d w q.toNat := by rw [e5]
  omega

/-! ### captures that tell, if they can -/
def madeF (bad w mo lim : Int) : List Int → Int → Int → List Cp
  | [], _, _ => []
  | h :: hs, t, n =>
    if bitB bad h.toNat = true ∨ mo = 0 then madeF bad w mo lim hs t n
    else if n = mo then (if t + w ≤ lim then (h, t + w, ()) :: madeF bad w mo lim hs (t + w) 1 else madeF bad w mo lim hs (t + w) 0)
    else (if t ≤ lim then (h, t, ()) :: madeF bad w mo lim hs t (n + 1) else madeF bad w mo lim hs t n)
theorem made_len (bad w mo lim : Int) : ∀ (hs : List Int) (t n : Int), (madeF bad w mo lim hs t n).length ≤ hs.length
  | [], _, _ => Nat.le_refl _
  | h :: hs, t, n => by
    have h1 := made_len bad w mo lim hs
    unfold madeF
    repeat' split
    all_goals simp only [List.length_cons]
    all_goals first | (have := h1 t n; omega) | (have := h1 (t + w) 1; omega) | (have := h1 (t + w) 0; omega) | (have := h1 t (n + 1); omega)
/-- The houses, one after the other; the ticks. -/
theorem made_mem {bad w mo lim : Int} (hw : 1 ≤ w) : ∀ (hs : List Int) (t n : Int), ∀ x ∈ madeF bad w mo lim hs t n, x.1 ∈ hs ∧ ¬ bitB bad x.1.toNat = true ∧ ¬ mo = 0 ∧ x.2.1 ≤ lim ∧ ∃ i : Nat, x.2.1 = t + i * w
  | [], _, _, x, hx => by simp [madeF] at hx
  | h :: hs, t, n, x, hx => by
    have up : ∀ t n, x ∈ madeF bad w mo lim hs t n → x.1 ∈ h :: hs ∧ ¬ bitB bad x.1.toNat = true ∧ ¬ mo = 0 ∧ x.2.1 ≤ lim ∧ ∃ i : Nat, x.2.1 = t + i * w := fun t n hx => by
      obtain ⟨h1, h2⟩ := made_mem hw hs t n x hx
      exact ⟨List.mem_cons_of_mem _ h1, h2⟩
    have up2 : ∀ n, x ∈ madeF bad w mo lim hs (t + w) n → x.1 ∈ h :: hs ∧ ¬ bitB bad x.1.toNat = true ∧ ¬ mo = 0 ∧ x.2.1 ≤ lim ∧ ∃ i : Nat, x.2.1 = t + i * w := fun n hx => by
      obtain ⟨h1, h2, h3, h4, i, h5⟩ := up _ _ hx
      refine ⟨h1, h2, h3, h4, i + 1, ?_⟩
      rw [h5, Int.natCast_add, Int.add_mul]
      simp only [Int.natCast_one, Int.one_mul]
      omega
    unfold madeF at hx
    split at hx
    · exact up _ _ hx
    · rename_i hb
      have hb1 : ¬ bitB bad h.toNat = true := fun g => hb (.inl g)
      have hb2 : ¬ mo = 0 := fun g => hb (.inr g)
      split at hx
      · split at hx
        · rcases List.mem_cons.1 hx with rfl | hx
          · exact ⟨by simp, hb1, hb2, by assumption, 1, by simp⟩
          · exact up2 _ hx
        · exact up2 _ hx
      · split at hx
        · rcases List.mem_cons.1 hx with rfl | hx
          · exact ⟨by simp, hb1, hb2, by assumption, 0, by simp⟩
          · exact up _ _ hx
        · exact up _ _ hx
theorem made_late {bad w mo lim : Int} (hw : 1 ≤ w) : ∀ (hs : List Int) (t n : Int), lim < t → madeF bad w mo lim hs t n = [] := fun hs t n h => by
  apply List.eq_nil_iff_forall_not_mem.2
  intro x hx
  obtain ⟨_, _, _, h4, i, h5⟩ := made_mem hw hs t n x hx
  have := Int.mul_nonneg (Int.natCast_nonneg i) (by omega : 0 ≤ w)
  omega
theorem made_tick {bad w mo lim : Int} (hw : 1 ≤ w) (hm : 0 ≤ mo) : ∀ (hs : List Int) (t n T : Int), 0 ≤ n → n ≤ mo → ((madeF bad w mo lim hs t n).countP (fun x => decide (x.2.1 = T)) : Int) ≤ (if T = t then mo - n else mo)
  | [], t, n, T, h0, h1 => by simp [madeF]; split <;> omega
  | h :: hs, t, n, T, h0, h1 => by
    have late : ∀ n, T = t → (madeF bad w mo lim hs (t + w) n).countP (fun x => decide (x.2.1 = T)) = 0 := fun n e => List.countP_eq_zero.2 fun x hx hp => by
      obtain ⟨_, _, _, _, i, h5⟩ := made_mem hw hs (t + w) n x hx
      have hp := of_decide_eq_true hp
      have := Int.mul_nonneg (Int.natCast_nonneg i) (by omega : 0 ≤ w)
      omega
    unfold madeF
    split
    · exact made_tick (bad := bad) (lim := lim) hw hm hs t n T h0 h1
    · rename_i hb
      have hb2 : ¬ mo = 0 := fun g => hb (.inr g)
      split
      · rename_i hn
        split
        · rw [List.countP_cons]
          by_cases e : T = t
          · rw [late _ e, if_pos e, if_neg (by simp; omega)]; simp; omega
          · rw [if_neg e]
            have := made_tick (bad := bad) (lim := lim) hw hm hs (t + w) 1 T (by omega) (by omega)
            by_cases e2 : T = t + w
            · rw [if_pos e2] at this
              rw [if_pos (by simp; omega)]; omega
            · rw [if_neg e2] at this
              rw [if_neg (by simp; omega)]; omega
        · by_cases e : T = t
          · rw [late _ e, if_pos e]; simp; omega
          · rw [if_neg e]
            have := made_tick (bad := bad) (lim := lim) hw hm hs (t + w) 0 T (by omega) (by omega)
            split at this <;> omega
      · split
        · rw [List.countP_cons]
          have := made_tick (bad := bad) (lim := lim) hw hm hs t (n + 1) T (by omega) (by omega)
          by_cases e : T = t
          · rw [if_pos e] at this ⊢
            rw [if_pos (by simp; omega)]; omega
          · rw [if_neg e] at this ⊢
            rw [if_neg (by simp; omega)]; omega
        · exact made_tick (bad := bad) (lim := lim) hw hm hs t n T h0 h1
theorem made_allowed {bad w mo lim : Int} (hw : 1 ≤ w) (hm : 0 ≤ mo) (hs : List Int) (t : Int) : alwB (madeF bad w mo lim hs t 0) w mo = true := by
  apply List.all_eq_true.2
  intro x hx
  apply decide_eq_true
  obtain ⟨_, _, _, _, i, hi⟩ := made_mem hw hs t 0 x hx
  have h1 := made_tick (bad := bad) (lim := lim) hw hm hs t 0 x.2.1 (by omega) hm
  have h2 : winC (madeF bad w mo lim hs t 0) x.2.1 w ≤ (madeF bad w mo lim hs t 0).countP (fun y => decide (y.2.1 = x.2.1)) := List.countP_mono_left fun y hy hp => by
    obtain ⟨_, _, _, _, j, hj⟩ := made_mem hw hs t 0 y hy
    have hp := of_decide_eq_true hp
    apply decide_eq_true
    rw [hi, hj] at *
    have e1 : (i : Int) * w ≤ j * w := by omega
    have e2 : (j : Int) * w < (i + 1) * w := by rw [Int.add_mul]; omega
    have e3 : i ≤ j := by
      rcases Nat.lt_or_ge j i with g | g
      · have := Int.mul_le_mul_of_nonneg_right (by omega : (j : Int) + 1 ≤ i) (by omega : 0 ≤ w)
        rw [Int.add_mul] at this; omega
      · exact g
    have e4 : j ≤ i := by
      rcases Nat.lt_or_ge i j with g | g
      · have := Int.mul_le_mul_of_nonneg_right (by omega : (i : Int) + 1 ≤ j) (by omega : 0 ≤ w)
        omega
      · exact g
    have : i = j := by omega
    rw [this]
  split at h1 <;> omega
def freeC (bad : Int) (hs : List Int) : Nat := hs.countP fun h => !bitB bad h.toNat
theorem made_many {bad w mo lim : Int} (hw : 1 ≤ w) (hm : 1 ≤ mo) : ∀ (hs : List Int) (t n : Int), 0 ≤ n → n ≤ mo → t ≤ lim → ((madeF bad w mo lim hs t n).length : Int) = min (freeC bad hs : Int) (mo * ((lim - t) / w) + (mo - n))
  | [], t, n, h0, h1, h2 => by
    have := Int.ediv_nonneg (by omega : 0 ≤ lim - t) (by omega : 0 ≤ w)
    have := Int.mul_nonneg (by omega : 0 ≤ mo) this
    simp [madeF, freeC]; omega
  | h :: hs, t, n, h0, h1, h2 => by
    have hd := Int.ediv_nonneg (by omega : 0 ≤ lim - t) (by omega : 0 ≤ w)
    have hp := Int.mul_nonneg (by omega : 0 ≤ mo) hd
    have ef : freeC bad (h :: hs) = freeC bad hs + (if (!bitB bad h.toNat) = true then 1 else 0) := by unfold freeC; rw [List.countP_cons]
    by_cases hb : bitB bad h.toNat = true ∨ mo = 0
    · rw [madeF, if_pos hb]
      have hb : bitB bad h.toNat = true := by rcases hb with g | g; exact g; omega
      rw [made_many hw hm hs t n h0 h1 h2, ef, hb]; simp
    · rw [madeF, if_neg hb]
      have hb1 : bitB bad h.toNat = false := by cases e : bitB bad h.toNat; rfl; exact absurd (.inl e) hb
      rw [hb1] at ef
      simp only [Bool.not_false, if_true] at ef
      rw [ef]
      by_cases hn : n = mo
      · rw [if_pos hn]
        have hdiv : (lim - t) / w = (lim - (t + w)) / w + 1 := by
          rw [show lim - t = (lim - (t + w)) + 1 * w by omega, Int.add_mul_ediv_right _ _ (by omega)]
        by_cases hl : t + w ≤ lim
        · rw [if_pos hl]
          have := made_many (bad := bad) hw hm hs (t + w) 1 (by omega) (by omega) hl
          rw [List.length_cons, Int.natCast_add, this, hdiv, Int.mul_add]
          simp only [Int.mul_one, Int.natCast_one, Int.natCast_add]
          omega
        · rw [if_neg hl, made_late hw _ _ _ (by omega)]
          have : (lim - t) / w = 0 := Int.ediv_eq_zero_of_lt (by omega) (by omega)
          rw [this, Int.mul_zero, List.length_nil]
          omega
      · rw [if_neg hn, if_pos h2]
        have := made_many (bad := bad) hw hm hs t (n + 1) (by omega) (by omega) h2
        rw [List.length_cons, Int.natCast_add, this]
        simp only [Int.natCast_one, Int.natCast_add]
        omega
theorem cntF_or_eq {f g : Nat → Bool} : ∀ k, (∀ i, i < k → ¬ (f i = true ∧ g i = true)) → cntF (fun i => f i || g i) k = cntF f k + cntF g k
  | 0, _ => rfl
  | k + 1, h => by
    have h1 := cntF_or_eq k fun i hi => h i (by omega)
    have h2 := h k (by omega)
    rw [cntF, cntF, cntF, h1]
    cases e1 : f k <;> cases e2 : g k <;> simp [e1, e2] at h2 ⊢ <;> omega
theorem cntF_one {x : Int} (h0 : 0 ≤ x) (h1 : x ≤ 11) : cntF (fun i => decide (x = (i : Int))) 12 = 1 := by
  obtain ⟨n, rfl⟩ : ∃ n : Nat, x = (n : Int) := ⟨x.toNat, by omega⟩
  have : n < 12 := by omega
  have h : ∀ n : Nat, n < 12 → cntF (fun i => decide ((n : Int) = (i : Int))) 12 = 1 := by decide
  exact h n this
/-- Increasing houses. -/
theorem made_inc {bad w mo lim : Int} (hw : 1 ≤ w) : ∀ (hs : List Int) (p t n : Int), hsF p hs = true → (madeF bad w mo lim hs t n).Pairwise (fun x y => x.1 < y.1)
  | [], _, _, _, _ => by simp [madeF]
  | h :: hs, p, t, n, hh => by
    have hh' := hh
    simp only [hsF, Bool.and_eq_true, decide_eq_true_eq] at hh
    have ih := fun t n => made_inc (bad := bad) (mo := mo) (lim := lim) hw hs h t n hh.2
    have hx : ∀ t n, ∀ x ∈ madeF bad w mo lim hs t n, h < x.1 := fun t n x hx => (hsF_all hs h hh.2 _ (made_mem hw hs t n x hx).1).1
    unfold madeF
    split
    · exact ih _ _
    · split
      · split
        · exact List.pairwise_cons.2 ⟨hx _ _, ih _ _⟩
        · exact ih _ _
      · split
        · exact List.pairwise_cons.2 ⟨hx _ _, ih _ _⟩
        · exact ih _ _
theorem cnt_cap {b l d : Int} {q : Nat} : ∀ a : List Cp, a.Pairwise (fun x y => x.1 < y.1) → (∀ x ∈ a, 0 ≤ x.1 ∧ x.1 ≤ 11 ∧ exB b l d x.2.1 q = true) → cntF (fun h => a.any (capIn b l d q h)) 12 = a.length
  | [], _, _ => by simp; rfl
  | x :: a, hp, hx => by
    obtain ⟨h1, h2⟩ := List.pairwise_cons.1 hp
    have ih := cnt_cap a h2 fun y hy => hx y (by simp [hy])
    obtain ⟨x0, x1, x2⟩ := hx x (by simp)
    have e : (fun h : Nat => (x :: a).any (capIn b l d q h)) = fun h : Nat => (decide (x.1 = (h : Int)) || a.any (capIn b l d q h)) := by
      funext h; rw [List.any_cons]; unfold capIn; rw [x2, Bool.and_true]
    rw [e, cntF_or_eq, ih, cntF_one x0 x1, List.length_cons]
    · omega
    · rintro i hi ⟨g1, g2⟩
      obtain ⟨y, hy, g2⟩ := List.any_eq_true.1 g2
      unfold capIn at g2
      rw [Bool.and_eq_true] at g2
      have e1 := of_decide_eq_true g1
      have e2 := of_decide_eq_true g2.1
      have := h1 y hy
      omega
def madeL (b l d : Int) (hs : List Int) (bad w mo : Int) (q : Nat) : List Cp := madeF bad w mo (min (expT b l d q) 1000000) hs (expF b d q) 0
theorem made_caps {b l d m : Int} {hs : List Int} (hc : Cal b l d m hs) {bad w mo : Int} (hw : 1 ≤ w) {q : Nat} : ∀ x ∈ madeL b l d hs bad w mo q, capB x = true ∧ exB b l d x.2.1 q = true := by
  intro x hx
  obtain ⟨h1, h2, h3, h4, i, h5⟩ := made_mem hw _ _ _ x hx
  have g := hsF_all hs (-1) hc.ho _ h1
  have g2 := Int.mul_nonneg (Int.natCast_nonneg i) (by omega : 0 ≤ w)
  have g3 : 0 ≤ expF b d q := by
    unfold expF
    have := hc.b0
    have := Int.mul_nonneg (by omega : 0 ≤ max 0 ((q : Int) - 1)) (by have := hc.n1; omega : 0 ≤ d)
    omega
  exact ⟨decide_eq_true ⟨by omega, by omega, by omega, by omega⟩, decide_eq_true ⟨by omega, by omega⟩⟩
theorem made_red {b l d m : Int} {hs : List Int} (hc : Cal b l d m hs) {bad w mo : Int} (hw : 1 ≤ w) (hb : 0 ≤ bad ∧ bad ≤ 4095) {q : Nat} : redL b l d m hs bad (madeL b l d hs bad w mo q) = 0 := by
  unfold redL
  rw [if_pos hc.chk, if_pos hb]
  have := made_len bad w mo (min (expT b l d q) 1000000) hs (expF b d q) 0
  exact cap0' (by have := hc.h12; unfold madeL; omega) fun x hx => (made_caps hc hw x hx).1
theorem free_knw {b l d m : Int} {hs : List Int} (hc : Cal b l d m hs) (bad : Int) : (freeC bad hs : Int) = hs.length - knwL b l d hs bad := by
  have h1 := knw_many hc bad
  have h2 : ∀ l : List Int, freeC bad l + cntS (fun h => bitB bad h || bitB 0 h) l = l.length := by
    intro l
    induction l with
    | nil => rfl
    | cons x l ih =>
      rw [List.length_cons, ← ih, cntS]
      unfold freeC
      rw [List.countP_cons, bitB_zero]
      cases bitB bad x.toNat <;> simp <;> omega
  have := h2 hs
  omega
theorem made_tells {b l d m : Int} {hs : List Int} (hc : Cal b l d m hs) {bad w mo : Int} (hw : 1 ≤ w) (hm : 0 ≤ mo) (hm2 : mo ≤ 12) (hb : 0 ≤ bad ∧ bad ≤ 4095) {q : Nat} (hq : (q : Int) < cntL b l d)
    (hn : telL b l d m hs bad (madeL b l d hs bad w mo q) = []) : safQ b l d m hs bad w mo q = true := by
  apply decide_eq_true
  apply Classical.byContradiction
  intro hge
  obtain ⟨w1, w2, w3, w4, w5, w6, w7⟩ := win_ok (w := w) (mo := mo) hc hw hm hm2 hq
  have hfr := free_knw hc bad
  have hlen : min ((hs.length : Int) - knwL b l d hs bad) (mo * winL b l d w q) ≤ ((madeL b l d hs bad w mo q).length : Int) := by
    rcases Int.lt_or_le 0 mo with g | g
    · have := made_many (bad := bad) (lim := min (expT b l d q) 1000000) hw g hs (expF b d q) 0 (by omega) (by omega) (by omega)
      unfold madeL
      rw [this, hfr]
      have e : mo * winL b l d w q = mo * ((min (expT b l d q) 1000000 - expF b d q) / w) + (mo - 0) := by unfold winL; rw [Int.mul_add]; omega
      rw [e]
      exact Int.le_refl _
    · have : mo = 0 := by omega
      subst this
      rw [Int.zero_mul]; omega
  have hin := made_inc (bad := bad) (mo := mo) (lim := min (expT b l d q) 1000000) hw hs (-1) (expF b d q) 0 hc.ho
  have hcnt := cnt_cap (b := b) (l := l) (d := d) (q := q) (madeL b l d hs bad w mo q) hin fun x hx => by
    obtain ⟨h1, h2⟩ := made_caps hc hw x hx
    have := capB_ok h1
    exact ⟨this.1, this.2.1, h2⟩
  have hsum : cntF (fun h => seenC b l d hs bad [] q h || (madeL b l d hs bad w mo q).any (capIn b l d q h)) 12 = knwL b l d hs bad + (madeL b l d hs bad w mo q).length := by
    rw [cntF_or_eq, hcnt, knw_same]
    rintro i hi ⟨g1, g2⟩
    obtain ⟨y, hy, g2⟩ := List.any_eq_true.1 g2
    unfold capIn at g2
    rw [Bool.and_eq_true] at g2
    have e2 := of_decide_eq_true g2.1
    have := (made_mem hw _ _ _ y hy).2.1
    rw [e2] at this
    unfold seenC at g1
    simp at g1
    exact this (by simpa using g1.2)
  have hle := cntF_mono (f := fun h => seenC b l d hs bad [] q h || (madeL b l d hs bad w mo q).any (capIn b l d q h)) (g := seenC b l d hs bad (madeL b l d hs bad w mo q) q) 12 fun i hi h => by
    rw [Bool.or_eq_true] at h
    rcases h with h | h
    · unfold seenC at *
      rw [Bool.and_eq_true] at *
      refine ⟨h.1, ?_⟩
      have := h.2
      simp at this
      rw [this]; rfl
    · unfold seenC
      obtain ⟨y, hy, g2⟩ := List.any_eq_true.1 h
      have e1 := (made_mem hw _ _ _ y hy).1
      have g3 := g2
      unfold capIn at g3
      rw [Bool.and_eq_true] at g3
      have e2 := of_decide_eq_true g3.1
      rw [e2] at e1
      rw [h, Bool.or_true, Bool.and_true]
      simpa using e1
  have htp : telP b l d m hs bad (madeL b l d hs bad w mo q) q = true := decide_eq_true (by omega)
  have := mem_tel (made_red (m := m) hc hw hb) hq htp
  rw [hn] at this
  simp at this
theorem safe0 {b l d m : Int} {hs : List Int} {bad w mo : Int} (h : safE b l d m hs bad w mo = 0) : 0 ≤ bad ∧ bad ≤ 4095 ∧ 1 ≤ w ∧ w ≤ 1000000 ∧ 0 ≤ mo ∧ mo ≤ 12 := by
  unfold safE at h
  split at h
  · rename_i h1
    obtain ⟨_, h2, h3, _⟩ := red0 h1
    split at h
    · omega
    · omega
  · contradiction
theorem safe_no {b l d m : Int} {hs : List Int} {bad w mo : Int} (h : ¬ safE b l d m hs bad w mo = 0) : ¬ safL b l d m hs bad w mo = true := by
  intro g
  rw [safL, decide_eq_false h, Bool.false_and] at g
  cases g
end Go.Proofs.Ytgljcfnplkcfhaa.S29

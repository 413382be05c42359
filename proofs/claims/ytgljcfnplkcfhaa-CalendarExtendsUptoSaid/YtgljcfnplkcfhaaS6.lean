/- Texts of this claim: S29.R3, S29.R4, S29.Pg, S29.L4. -/
import Derived.Test.YtgljcfnplkcfhaaS5
set_option linter.unusedVariables false
set_option linter.unusedSimpArgs false
namespace Go.Proofs.Ytgljcfnplkcfhaa.S29
open Go Go.Proofs.Ytgljcfnplkcfhaa.Vc Go.Proofs
set_option maxRecDepth 100000
set_option linter.unusedVariables false

def sRWro : List V → Option (Prop × V × List Blk)
  | [.sl false (.cons (.int .i64) (.cons (.int .i64) .nil)) a] => some (a.length ≤ 2000000, .int .i64 (capL a), [])
  | _ => none
set_option maxHeartbeats 1000000 in
theorem bRWro (a : List (Int × (Int × Unit))) (hp0 : a.length ≤ 2000000) : bodyP (En CRLok tys [] QAt) Try.f82 [.k] [.sl false (.cons (.int .i64) (.cons (.int .i64) .nil)) a] (.int .i64 (capL a)) [] := by
  refine ⟨fun h0 => ?_, fun h0 => ?_⟩
  · replace h0 : 500 < (a.length : Int) := h0
    first | have e := all_bad (d := (0, (0, ()))) (by omega) hc1_1 (capB_no (by omega)) | have e := all_end (by omega) hc1_1 | skip
    refine ⟨rfl, rfl, ?_, rfl⟩
    unfold capL
    repeat' split
    all_goals first | rfl | omega | (exfalso; simp_all; done)
  · replace h0 : ¬ (500 < (a.length : Int)) := h0
    refine ⟨0, [(0, .k), (3, .k)], fun n vs H => ∃ (k : Nat), k ≤ a.length ∧ (a.drop k).all capB = a.all capB ∧ n = a.length - k ∧ vs = [.sl false (.cons (.int .i64) (.cons (.int .i64) .nil)) a, .int .i64 (k : Int)] ∧ H = [], ⟨rfl, a.length, 0, by omega, rfl, by omega, rfl, rfl⟩, ?_⟩
    rintro n vs H ⟨k, hc1_0, hc1_1, rfl, rfl, rfl⟩
    refine ⟨fun h1 => ?_, fun h1 => ?_⟩
    · replace h1 : (k : Int) < (a.length : Int) := h1
      refine ⟨⟨by show (0 : Int) ≤ (k : Int); omega, by show (k : Int) < (a.length : Int); omega⟩, fun h2 => ?_, fun h2 => ?_⟩
      · replace h2 : ¬ (((a.getD k (0, (0, ()))).1) < 0) := h2
        refine ⟨⟨by show (0 : Int) ≤ (k : Int); omega, by show (k : Int) < (a.length : Int); omega⟩, fun h3 => ?_, fun h3 => ?_⟩
        · replace h3 : ¬ (11 < ((a.getD k (0, (0, ()))).1)) := h3
          refine ⟨⟨by show (0 : Int) ≤ (k : Int); omega, by show (k : Int) < (a.length : Int); omega⟩, fun h4 => ?_, fun h4 => ?_⟩
          · replace h4 : ¬ ((((a.getD k (0, (0, ()))).2).1) < 0) := h4
            refine ⟨⟨by show (0 : Int) ≤ (k : Int); omega, by show (k : Int) < (a.length : Int); omega⟩, fun h5 => ?_, fun h5 => ?_⟩
            · replace h5 : 1000000 < (((a.getD k (0, (0, ()))).2).1) := h5
              first | have e := all_bad (d := (0, (0, ()))) (by omega) hc1_1 (capB_no (by omega)) | have e := all_end (by omega) hc1_1 | skip
              refine ⟨rfl, rfl, ?_, rfl⟩
              unfold capL
              repeat' split
              all_goals first | rfl | omega | (exfalso; simp_all; done)
            · replace h5 : ¬ (1000000 < (((a.getD k (0, (0, ()))).2).1)) := h5
              refine ⟨⟨by show (-9223372036854775808 : Int) ≤ ((k : Int) + 1); omega, by show ((k : Int) + 1) ≤ (9223372036854775807 : Int); omega⟩, ?_⟩
              exact ⟨rfl, a.length - (k + 1), by omega, k + 1, by omega, all_next (d := (0, (0, ()))) (by omega) hc1_1 (capB_yes (by omega)), rfl, rfl, rfl⟩
          · replace h4 : (((a.getD k (0, (0, ()))).2).1) < 0 := h4
            first | have e := all_bad (d := (0, (0, ()))) (by omega) hc1_1 (capB_no (by omega)) | have e := all_end (by omega) hc1_1 | skip
            refine ⟨rfl, rfl, ?_, rfl⟩
            unfold capL
            repeat' split
            all_goals first | rfl | omega | (exfalso; simp_all; done)
        · replace h3 : 11 < ((a.getD k (0, (0, ()))).1) := h3
          first | have e := all_bad (d := (0, (0, ()))) (by omega) hc1_1 (capB_no (by omega)) | have e := all_end (by omega) hc1_1 | skip
          refine ⟨rfl, rfl, ?_, rfl⟩
          unfold capL
          repeat' split
          all_goals first | rfl | omega | (exfalso; simp_all; done)
      · replace h2 : ((a.getD k (0, (0, ()))).1) < 0 := h2
        first | have e := all_bad (d := (0, (0, ()))) (by omega) hc1_1 (capB_no (by omega)) | have e := all_end (by omega) hc1_1 | skip
        refine ⟨rfl, rfl, ?_, rfl⟩
        unfold capL
        repeat' split
        all_goals first | rfl | omega | (exfalso; simp_all; done)
    · replace h1 : ¬ ((k : Int) < (a.length : Int)) := h1
      first | have e := all_bad (d := (0, (0, ()))) (by omega) hc1_1 (capB_no (by omega)) | have e := all_end (by omega) hc1_1 | skip
      refine ⟨rfl, rfl, ?_, rfl⟩
      unfold capL
      repeat' split
      all_goals first | rfl | omega | (exfalso; simp_all; done)
def CRWro : List (Nat × Con) := (82, pureC [.v (.sl (.cons (.int .i64) (.cons (.int .i64) .nil)))] sRWro) :: CRLok
theorem kRWro : Known Try.prog (En CRWro tys [] QAt) := kRLok.add Try.func82 Try.call82 [.k] fun ds p v bs h hp => by
  unfold sRWro at h
  split at h <;> simp only [Option.some.injEq, Prod.mk.injEq, reduceCtorEq] at h
  obtain ⟨rfl, rfl, rfl⟩ := h
  exact bRWro _ hp
def sRCpd : List V → Option (Prop × V × List Blk)
  | [.sl false (.cons (.int .i64) (.cons (.int .i64) .nil)) a, .int .i64 h, .int .i64 f, .int .i64 t] => some (a.length ≤ 2000000, .b (cpdB a h f t = true), [])
  | _ => none
set_option maxHeartbeats 1000000 in
theorem bRCpd (a : List (Int × (Int × Unit))) (h : Int) (f : Int) (t : Int) (hp0 : a.length ≤ 2000000) : bodyP (En CRWro tys [] QAt) Try.f83 [.k] [.sl false (.cons (.int .i64) (.cons (.int .i64) .nil)) a, .int .i64 h, .int .i64 f, .int .i64 t] (.b (cpdB a h f t = true)) [] := by
  refine ⟨0, [(0, .k), (1, .k), (2, .k), (3, .k), (9, .k)], fun n vs H => ∃ (k : Nat), k ≤ a.length ∧ ((a.take k).any (fun x => decide (x.1 = h ∧ f ≤ x.2.1 ∧ x.2.1 ≤ t)) = false) ∧ n = a.length - k ∧ vs = [.sl false (.cons (.int .i64) (.cons (.int .i64) .nil)) a, .int .i64 h, .int .i64 f, .int .i64 t, .int .i64 (k : Int)] ∧ H = [], ⟨rfl, a.length, 0, by omega, rfl, by omega, rfl, rfl⟩, ?_⟩
  rintro n vs H ⟨k, hc1_0, hc1_1, rfl, rfl, rfl⟩
  refine ⟨fun h0 => ?_, fun h0 => ?_⟩
  · replace h0 : (k : Int) < (a.length : Int) := h0
    refine ⟨⟨by show (0 : Int) ≤ (k : Int); omega, by show (k : Int) < (a.length : Int); omega⟩, fun h1 => ?_, fun h1 => ?_⟩
    · replace h1 : ((a.getD k (0, (0, ()))).1) = h := h1
      refine ⟨⟨by show (0 : Int) ≤ (k : Int); omega, by show (k : Int) < (a.length : Int); omega⟩, fun h2 => ?_, fun h2 => ?_⟩
      · replace h2 : f ≤ (((a.getD k (0, (0, ()))).2).1) := h2
        refine ⟨⟨by show (0 : Int) ≤ (k : Int); omega, by show (k : Int) < (a.length : Int); omega⟩, fun h3 => ?_, fun h3 => ?_⟩
        · replace h3 : (((a.getD k (0, (0, ()))).2).1) ≤ t := h3
          have e : cpdB a h f t = true := any_yes (d := (0, (0, ()))) (k := k) (by omega) (decide_eq_true ⟨by omega, by omega, by omega⟩)
          rw [e]
          exact ⟨rfl, rfl, rfl, rfl⟩
        · replace h3 : ¬ ((((a.getD k (0, (0, ()))).2).1) ≤ t) := h3
          refine ⟨⟨by show (-9223372036854775808 : Int) ≤ ((k : Int) + 1); omega, by show ((k : Int) + 1) ≤ (9223372036854775807 : Int); omega⟩, ?_⟩
          exact ⟨rfl, a.length - (k + 1), by omega, k + 1, by omega, any_take_no (d := (0, (0, ()))) (by omega) hc1_1 (decide_eq_false (by omega)), rfl, rfl, rfl⟩
      · replace h2 : ¬ (f ≤ (((a.getD k (0, (0, ()))).2).1)) := h2
        refine ⟨⟨by show (-9223372036854775808 : Int) ≤ ((k : Int) + 1); omega, by show ((k : Int) + 1) ≤ (9223372036854775807 : Int); omega⟩, ?_⟩
        exact ⟨rfl, a.length - (k + 1), by omega, k + 1, by omega, any_take_no (d := (0, (0, ()))) (by omega) hc1_1 (decide_eq_false (by omega)), rfl, rfl, rfl⟩
    · replace h1 : ¬ (((a.getD k (0, (0, ()))).1) = h) := h1
      refine ⟨⟨by show (-9223372036854775808 : Int) ≤ ((k : Int) + 1); omega, by show ((k : Int) + 1) ≤ (9223372036854775807 : Int); omega⟩, ?_⟩
      exact ⟨rfl, a.length - (k + 1), by omega, k + 1, by omega, any_take_no (d := (0, (0, ()))) (by omega) hc1_1 (decide_eq_false (by omega)), rfl, rfl, rfl⟩
  · replace h0 : ¬ ((k : Int) < (a.length : Int)) := h0
    have e : cpdB a h f t = false := by rw [← hc1_1, List.take_of_length_le (by omega)]; rfl
    rw [e]
    exact ⟨rfl, rfl, rfl, rfl⟩
def CRCpd : List (Nat × Con) := (83, pureC [.v (.sl (.cons (.int .i64) (.cons (.int .i64) .nil))), .v (.int .i64), .v (.int .i64), .v (.int .i64)] sRCpd) :: CRWro
theorem kRCpd : Known Try.prog (En CRCpd tys [] QAt) := kRWro.add Try.func83 Try.call83 [.k] fun ds p v bs h hp => by
  unfold sRCpd at h
  split at h <;> simp only [Option.some.injEq, Prod.mk.injEq, reduceCtorEq] at h
  obtain ⟨rfl, rfl, rfl⟩ := h
  exact bRCpd _ _ _ _ hp
def sRBit : List V → Option (Prop × V × List Blk)
  | [.int .i64 h] => some (0 ≤ h ∧ h ≤ 11, .int .i64 (pwN h.toNat), [])
  | _ => none
set_option maxHeartbeats 1000000 in
theorem bRBit (h : Int) (hp0 : 0 ≤ h) (hp1 : h ≤ 11) : bodyP (En CRCpd tys [] QAt) Try.f84 [.k] [.int .i64 h] (.int .i64 (pwN h.toNat)) [] := by
  refine ⟨0, [(0, .k), (3, .k), (4, .k)], fun n vs H => ∃ (k : Nat), k ≤ h.toNat ∧ n = h.toNat - k ∧ vs = [.int .i64 h, .int .i64 (pwN k), .int .i64 (k : Int)] ∧ H = [], ⟨rfl, h.toNat, 0, by omega, by omega, rfl, rfl⟩, ?_⟩
  rintro n vs H ⟨k, hc1_0, rfl, rfl, rfl⟩
  have hpw := pwN_bd k (by omega)
  refine ⟨fun h0 => ?_, fun h0 => ?_⟩
  · replace h0 : (k : Int) < h := h0
    refine ⟨⟨by show (-9223372036854775808 : Int) ≤ (2 * (pwN k)); omega, by show (2 * (pwN k)) ≤ (9223372036854775807 : Int); omega⟩, ⟨by show (-9223372036854775808 : Int) ≤ ((k : Int) + 1); omega, by show ((k : Int) + 1) ≤ (9223372036854775807 : Int); omega⟩, ?_⟩
    exact ⟨rfl, h.toNat - (k + 1), by omega, k + 1, by omega, rfl, by rw [← pwN_succ]; rfl, rfl⟩
  · replace h0 : ¬ ((k : Int) < h) := h0
    obtain rfl : k = h.toNat := by omega
    exact ⟨rfl, rfl, rfl, rfl⟩
def CRBit : List (Nat × Con) := (84, pureC [.v (.int .i64)] sRBit) :: CRCpd
theorem kRBit : Known Try.prog (En CRBit tys [] QAt) := kRCpd.add Try.func84 Try.call84 [.k] fun ds p v bs h hp => by
  unfold sRBit at h
  split at h <;> simp only [Option.some.injEq, Prod.mk.injEq, reduceCtorEq] at h
  obtain ⟨rfl, rfl, rfl⟩ := h
  exact bRBit _ hp.1 hp.2
def sRSeen : List V → Option (Prop × V × List Blk)
  | [.agg [.int .i64 b, .int .i64 l, .int .i64 d, .int .i64 m, .sl false (.int .i64) hs], .sl false (.cons (.int .i64) (.cons (.int .i64) .nil)) a, .int .i64 q] => some (hs.length ≤ 2000000 ∧ a.length ≤ 2000000, .agg [.int .i64 (senL b l d m hs a q), .int .i64 (senE b l d m hs a q)], [])
  | _ => none
set_option maxHeartbeats 1000000 in
theorem bRSeen (b : Int) (l : Int) (d : Int) (m : Int) (hs : List Int) (a : List (Int × (Int × Unit))) (q : Int) (hp0 : hs.length ≤ 2000000) (hp1 : a.length ≤ 2000000) : bodyP (En CRBit tys [] QAt) Try.f32 [.k, .k] [.agg [.int .i64 b, .int .i64 l, .int .i64 d, .int .i64 m, .sl false (.int .i64) hs], .sl false (.cons (.int .i64) (.cons (.int .i64) .nil)) a, .int .i64 q] (.agg [.int .i64 (senL b l d m hs a q), .int .i64 (senE b l d m hs a q)]) [] := by
  refine ⟨rfl, rfl, rfl, rfl, by show hs.length ≤ 2000000; first | omega | assumption, fun h0 => ?_, fun h0 => ?_⟩
  · replace h0 : (chkL b l d m hs) = 0 := h0
    refine ⟨by show a.length ≤ 2000000; first | omega | assumption, fun h1 => ?_, fun h1 => ?_⟩
    · replace h1 : (capL a) ≠ 0 := h1
      refine ⟨⟨rfl, rfl, rfl, Nat.le_of_ble_eq_true rfl⟩, ?_⟩
      rw [show senL b l d m hs a q = 0 from if_neg (fun h => h1 h.2.1), show senE b l d m hs a q = capL a by unfold senE; rw [if_pos h0, if_neg h1]]
      exact ⟨rfl, rfl, rfl, rfl⟩
    · replace h1 : ¬ ((capL a) ≠ 0) := h1
      refine ⟨rfl, rfl, rfl, rfl, rfl, by show hs.length ≤ 2000000; first | omega | assumption, ⟨rfl, rfl, rfl, Nat.le_of_ble_eq_true rfl⟩, fun h2 => ?_, fun h2 => ?_⟩
      · replace h2 : (askL b l d m hs q) ≠ 0 := h2
        refine ⟨⟨rfl, rfl, rfl, Nat.le_of_ble_eq_true rfl⟩, ?_⟩
        rw [show senL b l d m hs a q = 0 from if_neg (fun h => h2 h.2.2), show senE b l d m hs a q = askL b l d m hs q by unfold senE; rw [if_pos h0, if_pos (Classical.not_not.1 h1)]]
        exact ⟨rfl, rfl, rfl, rfl⟩
      · replace h2 : ¬ ((askL b l d m hs q) ≠ 0) := h2
        obtain ⟨hc, hq0, hq1⟩ := ask0 (Classical.not_not.1 h2)
        obtain ⟨q1, q2, q3, q4, q5, q6, q7, q8, q9, q10, q11⟩ := id hc
        have ea := (Classical.not_not.1 h2)
        refine ⟨3, [(1, .k), (3, .k), (6, .k), (8, .k), (9, .k), (10, .k)], fun n vs H => ∃ (k : Nat), k ≤ hs.length ∧ n = hs.length - k ∧ vs = [.sl false (.cons (.int .i64) (.cons (.int .i64) .nil)) a, .ptr 0 1 0 0, .ptr 1 1 0 0, .ptr 2 1 0 0, .int .i64 (setS (fun h => cpdB a (h : Int) (expF b d q) (expT b l d q)) (hs.take k)), .int .i64 (k : Int)] ∧ H = [.cells [.int .i64 b, .int .i64 l, .int .i64 d, .int .i64 m, .sl false (.int .i64) hs], .cells [.int .i64 0, .int .i64 0], .cells [.int .i64 (if askL b l d m hs q = 0 then expF b d q else 0), .int .i64 (if askL b l d m hs q = 0 then expT b l d q else 0), .int .i64 (askL b l d m hs q)]], ⟨rfl, hs.length, 0, by omega, by omega, rfl, rfl⟩, ?_⟩
        rintro n vs H ⟨k, hc1_0, rfl, rfl, rfl⟩
        refine ⟨fun h3 => ?_, fun h3 => ?_⟩
        · replace h3 : (k : Int) < (hs.length : Int) := h3
          have hkl : k < hs.length := by omega
          obtain ⟨g1, g2⟩ := hsF_at hs _ k q8 hkl
          have hpw := pwN_bd11 (hs.getD k 0).toNat (by omega)
          have hsb := setS_bd (fun h => cpdB a (h : Int) (expF b d q) (expT b l d q)) (hs.take k) (fun x hx => (hsF_all hs _ q8 x (List.mem_of_mem_take hx)).2)
          rw [List.length_take] at hsb
          have e := setS_snoc (fun h => cpdB a (h : Int) (expF b d q) (expT b l d q)) (l := hs) (k := k) hkl
          have eg : (((hs.getD k 0).toNat : Nat) : Int) = hs.getD k 0 := by omega
          refine ⟨by kernel_rfl, ⟨by show (0 : Int) ≤ (k : Int); omega, by show (k : Int) < (hs.length : Int); omega⟩, rfl, rfl, rfl, by show a.length ≤ 2000000; first | omega | assumption, fun h4 => ?_, fun h4 => ?_⟩
          · replace h4 : cpdB a (hs.getD k 0) (if askL b l d m hs q = 0 then expF b d q else 0) (if askL b l d m hs q = 0 then expT b l d q else 0) = true := h4
            rw [if_pos ea, if_pos ea] at h4
            rw [if_pos (by rw [← h4, eg])] at e
            refine ⟨⟨by show (0 : Int) ≤ (k : Int); omega, by show (k : Int) < (hs.length : Int); omega⟩, rfl, ⟨by show 0 ≤ (hs.getD k 0); first | omega | assumption, by show (hs.getD k 0) ≤ 11; first | omega | assumption⟩, ⟨by show (-9223372036854775808 : Int) ≤ ((setS (fun h => cpdB a (h : Int) (expF b d q) (expT b l d q)) (hs.take k)) + (pwN (hs.getD k 0).toNat)); omega, by show ((setS (fun h => cpdB a (h : Int) (expF b d q) (expT b l d q)) (hs.take k)) + (pwN (hs.getD k 0).toNat)) ≤ (9223372036854775807 : Int); omega⟩, ⟨by show (-9223372036854775808 : Int) ≤ ((k : Int) + 1); omega, by show ((k : Int) + 1) ≤ (9223372036854775807 : Int); omega⟩, ?_⟩
            exact ⟨rfl, hs.length - (k + 1), by omega, k + 1, by omega, rfl, by rw [e]; rfl, rfl⟩
          · replace h4 : ¬ (cpdB a (hs.getD k 0) (if askL b l d m hs q = 0 then expF b d q else 0) (if askL b l d m hs q = 0 then expT b l d q else 0) = true) := h4
            rw [if_pos ea, if_pos ea] at h4
            rw [if_neg (by intro g; apply h4; rw [← g, eg]), Int.add_zero] at e
            refine ⟨⟨by show (-9223372036854775808 : Int) ≤ ((k : Int) + 1); omega, by show ((k : Int) + 1) ≤ (9223372036854775807 : Int); omega⟩, ?_⟩
            exact ⟨rfl, hs.length - (k + 1), by omega, k + 1, by omega, rfl, by rw [e]; rfl, rfl⟩
        · replace h3 : ¬ ((k : Int) < (hs.length : Int)) := h3
          refine ⟨⟨rfl, rfl, rfl, Nat.le_of_ble_eq_true rfl⟩, ?_⟩
          obtain rfl : k = hs.length := by omega
          rw [show senL b l d m hs a q = setS (fun h => cpdB a (h : Int) (expF b d q) (expT b l d q)) (hs.take hs.length) by unfold senL; rw [if_pos ⟨h0, (Classical.not_not.1 h1), ea⟩, List.take_length, sen_set' hc a hq0], show senE b l d m hs a q = 0 by unfold senE; rw [if_pos h0, if_pos (Classical.not_not.1 h1)]; exact ea]
          exact ⟨rfl, rfl, rfl, rfl⟩
  · replace h0 : ¬ ((chkL b l d m hs) = 0) := h0
    refine ⟨fun h5 => ?_, fun h5 => absurd (show (chkL b l d m hs) ≠ 0 by first | omega | assumption | simp_all) h5⟩
    refine ⟨⟨rfl, rfl, rfl, Nat.le_of_ble_eq_true rfl⟩, ?_⟩
    rw [show senL b l d m hs a q = 0 from if_neg (fun h => h0 h.1), show senE b l d m hs a q = chkL b l d m hs from if_neg h0]
    exact ⟨rfl, rfl, rfl, rfl⟩
def CRSeen : List (Nat × Con) := (32, pureC [.v (.cons (.int .i64) (.cons (.int .i64) (.cons (.int .i64) (.cons (.int .i64) (.cons (.sl (.int .i64)) .nil))))), .v (.sl (.cons (.int .i64) (.cons (.int .i64) .nil))), .v (.int .i64)] sRSeen) :: CRBit
theorem kRSeen : Known Try.prog (En CRSeen tys [] QAt) := kRBit.add Try.func32 Try.call32 [.k, .k] fun ds p v bs h hp => by
  unfold sRSeen at h
  split at h <;> simp only [Option.some.injEq, Prod.mk.injEq, reduceCtorEq] at h
  obtain ⟨rfl, rfl, rfl⟩ := h
  exact bRSeen _ _ _ _ _ _ _ hp.1 hp.2
def sRMany : List V → Option (Prop × V × List Blk)
  | [.agg [.int .i64 b, .int .i64 l, .int .i64 d, .int .i64 m, .sl false (.int .i64) hs], .int .i64 x, .int .i64 y] => some (Cal b l d m hs ∧ 0 ≤ x ∧ 0 ≤ y, .int .i64 (cntS (fun h => bitB x h || bitB y h) hs : Int), [])
  | _ => none
set_option maxHeartbeats 1000000 in
theorem bRMany (b : Int) (l : Int) (d : Int) (m : Int) (hs : List Int) (x : Int) (y : Int) (hp0 : Cal b l d m hs) (hp1 : 0 ≤ x) (hp2 : 0 ≤ y) : bodyP (En CRSeen tys [] QAt) Try.f87 [.k] [.agg [.int .i64 b, .int .i64 l, .int .i64 d, .int .i64 m, .sl false (.int .i64) hs], .int .i64 x, .int .i64 y] (.int .i64 (cntS (fun h => bitB x h || bitB y h) hs : Int)) [] := by
  obtain ⟨q1, q2, q3, q4, q5, q6, q7, q8, q9, q10, q11⟩ := id hp0
  refine ⟨1, [(1, .k), (2, .k), (3, .k), (7, .k), (8, .k)], fun n vs H => ∃ (k : Nat), k ≤ hs.length ∧ n = hs.length - k ∧ vs = [.int .i64 x, .int .i64 y, .ptr 0 1 0 0, .int .i64 (cntS (fun h => bitB x h || bitB y h) (hs.take k) : Int), .int .i64 (k : Int)] ∧ H = [.cells [.int .i64 b, .int .i64 l, .int .i64 d, .int .i64 m, .sl false (.int .i64) hs]], ⟨rfl, hs.length, 0, by omega, by omega, rfl, rfl⟩, ?_⟩
  rintro n vs H ⟨k, hc1_0, rfl, rfl, rfl⟩
  refine ⟨fun h0 => ?_, fun h0 => ?_⟩
  · replace h0 : (k : Int) < (hs.length : Int) := h0
    have hkl : k < hs.length := by omega
    obtain ⟨g1, g2⟩ := hsF_at hs _ k q8 hkl
    have hle := cntS_le (fun h => bitB x h || bitB y h) (hs.take k)
    rw [List.length_take] at hle
    have e := cntS_snoc (fun h => bitB x h || bitB y h) (l := hs) (k := k) hkl
    refine ⟨⟨by show (0 : Int) ≤ (k : Int); omega, by show (k : Int) < (hs.length : Int); omega⟩, rfl, rfl, ⟨by show 0 ≤ x; first | omega | assumption, by show 0 ≤ (hs.getD k 0); first | omega | assumption, by show (hs.getD k 0) ≤ 64; first | omega | assumption⟩, ⟨by show (0 : Int) ≤ (k : Int); omega, by show (k : Int) < (hs.length : Int); omega⟩, rfl, rfl, ⟨by show 0 ≤ y; first | omega | assumption, by show 0 ≤ (hs.getD k 0); first | omega | assumption, by show (hs.getD k 0) ≤ 64; first | omega | assumption⟩, fun h1 => ?_, fun h1 => ?_⟩
    · replace h1 : ¬ (bitB x (hs.getD k 0).toNat = true) := h1
      refine ⟨fun h2 => ?_, fun h2 => ?_⟩
      · replace h2 : bitB y (hs.getD k 0).toNat = true := h2
        refine ⟨⟨by show (-9223372036854775808 : Int) ≤ ((cntS (fun h => bitB x h || bitB y h) (hs.take k) : Int) + 1); omega, by show ((cntS (fun h => bitB x h || bitB y h) (hs.take k) : Int) + 1) ≤ (9223372036854775807 : Int); omega⟩, ⟨by show (-9223372036854775808 : Int) ≤ ((k : Int) + 1); omega, by show ((k : Int) + 1) ≤ (9223372036854775807 : Int); omega⟩, ?_⟩
        first | rw [if_pos (by rw [h1]; rfl)] at e | rw [if_pos (by rw [h2, Bool.or_true])] at e | (rw [Bool.not_eq_true] at h1 h2; rw [h1, h2, if_neg (by decide)] at e)
        exact ⟨rfl, hs.length - (k + 1), by omega, k + 1, by omega, rfl, by rw [e]; rfl, rfl⟩
      · replace h2 : ¬ (bitB y (hs.getD k 0).toNat = true) := h2
        refine ⟨⟨by show (-9223372036854775808 : Int) ≤ ((k : Int) + 1); omega, by show ((k : Int) + 1) ≤ (9223372036854775807 : Int); omega⟩, ?_⟩
        first | rw [if_pos (by rw [h1]; rfl)] at e | rw [if_pos (by rw [h2, Bool.or_true])] at e | (rw [Bool.not_eq_true] at h1 h2; rw [h1, h2, if_neg (by decide)] at e)
        exact ⟨rfl, hs.length - (k + 1), by omega, k + 1, by omega, rfl, by rw [e]; rfl, rfl⟩
    · replace h1 : bitB x (hs.getD k 0).toNat = true := h1
      refine ⟨⟨by show (-9223372036854775808 : Int) ≤ ((cntS (fun h => bitB x h || bitB y h) (hs.take k) : Int) + 1); omega, by show ((cntS (fun h => bitB x h || bitB y h) (hs.take k) : Int) + 1) ≤ (9223372036854775807 : Int); omega⟩, ⟨by show (-9223372036854775808 : Int) ≤ ((k : Int) + 1); omega, by show ((k : Int) + 1) ≤ (9223372036854775807 : Int); omega⟩, ?_⟩
      first | rw [if_pos (by rw [h1]; rfl)] at e | rw [if_pos (by rw [h2, Bool.or_true])] at e | (rw [Bool.not_eq_true] at h1 h2; rw [h1, h2, if_neg (by decide)] at e)
      exact ⟨rfl, hs.length - (k + 1), by omega, k + 1, by omega, rfl, by rw [e]; rfl, rfl⟩
  · replace h0 : ¬ ((k : Int) < (hs.length : Int)) := h0
    obtain rfl : k = hs.length := by omega
    rw [List.take_length]
    exact ⟨rfl, rfl, rfl, rfl⟩
def CRMany : List (Nat × Con) := (87, pureC [.v (.cons (.int .i64) (.cons (.int .i64) (.cons (.int .i64) (.cons (.int .i64) (.cons (.sl (.int .i64)) .nil))))), .v (.int .i64), .v (.int .i64)] sRMany) :: CRSeen
theorem kRMany : Known Try.prog (En CRMany tys [] QAt) := kRSeen.add Try.func87 Try.call87 [.k] fun ds p v bs h hp => by
  unfold sRMany at h
  split at h <;> simp only [Option.some.injEq, Prod.mk.injEq, reduceCtorEq] at h
  obtain ⟨rfl, rfl, rfl⟩ := h
  exact bRMany _ _ _ _ _ _ _ hp.1 hp.2.1 hp.2.2
def sRTel : List V → Option (Prop × V × List Blk)
  | [.agg [.int .i64 b, .int .i64 l, .int .i64 d, .int .i64 m, .sl false (.int .i64) hs], .int .i64 bad, .sl false (.cons (.int .i64) (.cons (.int .i64) .nil)) a] => some (hs.length ≤ 2000000 ∧ a.length ≤ 2000000, .agg [.own (.int .i64) 0, .int .i64 (redL b l d m hs bad a)], [.row true (.int .i64) (telL b l d m hs bad a)])
  | _ => none
set_option maxHeartbeats 1000000 in
theorem bRTel (b : Int) (l : Int) (d : Int) (m : Int) (hs : List Int) (bad : Int) (a : List (Int × (Int × Unit))) (hp0 : hs.length ≤ 2000000) (hp1 : a.length ≤ 2000000) : bodyP (En CRMany tys [] QAt) Try.f34 [.o (.int .i64), .k] [.agg [.int .i64 b, .int .i64 l, .int .i64 d, .int .i64 m, .sl false (.int .i64) hs], .int .i64 bad, .sl false (.cons (.int .i64) (.cons (.int .i64) .nil)) a] (.agg [.own (.int .i64) 0, .int .i64 (redL b l d m hs bad a)]) [.row true (.int .i64) (telL b l d m hs bad a)] := by
  refine ⟨rfl, rfl, rfl, rfl, by show hs.length ≤ 2000000; first | omega | assumption, fun h0 => ?_, fun h0 => ?_⟩
  · replace h0 : (chkL b l d m hs) ≠ 0 := h0
    refine ⟨⟨rfl, rfl, rfl, Nat.le_of_ble_eq_true rfl⟩, ?_⟩
    have e : redL b l d m hs bad a = chkL b l d m hs := if_neg h0
    rw [show telL b l d m hs bad a = [] from if_neg (by rw [e]; exact h0), e]
    exact ⟨rfl, rfl, rfl, rfl⟩
  · replace h0 : ¬ ((chkL b l d m hs) ≠ 0) := h0
    refine ⟨fun h1 => ?_, fun h1 => ?_⟩
    · replace h1 : ¬ (bad < 0) := h1
      refine ⟨fun h2 => ?_, fun h2 => ?_⟩
      · replace h2 : 4095 < bad := h2
        refine ⟨⟨rfl, rfl, rfl, Nat.le_of_ble_eq_true rfl⟩, ?_⟩
        have e : redL b l d m hs bad a = 1 := by unfold redL; rw [if_pos (Classical.not_not.1 h0), if_neg (by omega)]
        rw [show telL b l d m hs bad a = [] from if_neg (by rw [e]; decide), e]
        exact ⟨rfl, rfl, rfl, rfl⟩
      · replace h2 : ¬ (4095 < bad) := h2
        refine ⟨by show a.length ≤ 2000000; first | omega | assumption, fun h3 => ?_, fun h3 => ?_⟩
        · replace h3 : (capL a) ≠ 0 := h3
          refine ⟨⟨rfl, rfl, rfl, Nat.le_of_ble_eq_true rfl⟩, ?_⟩
          have e : redL b l d m hs bad a = capL a := by unfold redL; rw [if_pos (Classical.not_not.1 h0), if_pos ⟨by omega, by omega⟩]
          rw [show telL b l d m hs bad a = [] from if_neg (by rw [e]; exact h3), e]
          exact ⟨rfl, rfl, rfl, rfl⟩
        · replace h3 : ¬ ((capL a) ≠ 0) := h3
          have hr : redL b l d m hs bad a = 0 := by unfold redL; rw [if_pos (Classical.not_not.1 h0), if_pos ⟨by omega, by omega⟩]; exact (Classical.not_not.1 h3)
          obtain ⟨hc, hb0, hb1, hca1, hca2⟩ := red0 hr
          obtain ⟨q1, q2, q3, q4, q5, q6, q7, q8, q9, q10, q11⟩ := id hc
          obtain ⟨N, hN⟩ : ∃ N : Nat, cntL b l d = (N : Int) := ⟨(cntL b l d).toNat, by omega⟩
          refine ⟨rfl, rfl, rfl, rfl, ⟨by show 0 ≤ b; first | omega | assumption, by show b ≤ l; first | omega | assumption, by show l ≤ 1000000; first | omega | assumption, by show 1 ≤ d; first | omega | assumption⟩, 2, [(1, .k), (2, .k), (3, .k), (6, .k), (8, .o (.int .i64)), (9, .k), (10, .k)], fun n vs H => ∃ (k : Nat), k ≤ N ∧ n = N - k ∧ vs = [.int .i64 bad, .sl false (.cons (.int .i64) (.cons (.int .i64) .nil)) a, .ptr 0 1 0 0, .ptr 1 1 0 0, .own (.int .i64) 2, .int .i64 (cntL b l d), .int .i64 (k : Int)] ∧ H = [.cells [.int .i64 b, .int .i64 l, .int .i64 d, .int .i64 m, .sl false (.int .i64) hs], .cells [.nils, .int .i64 0], .row true (.int .i64) (telG b l d m hs bad a k)], ⟨rfl, N, 0, by omega, by omega, rfl, rfl⟩, ?_⟩
          rintro n vs H ⟨k, hc1_0, rfl, rfl, rfl⟩
          refine ⟨fun h4 => ?_, fun h4 => ?_⟩
          · replace h4 : (k : Int) < (cntL b l d) := h4
            have htl := telG_len b l d m hs bad a k
            have hsv := sen_val hc (Classical.not_not.1 h3) (k := k) (by omega)
            have hmn := tel_many hc bad a k hsv
            refine ⟨rfl, rfl, rfl, rfl, rfl, ⟨by show hs.length ≤ 2000000; first | omega | assumption, by show a.length ≤ 2000000; first | omega | assumption⟩, ⟨rfl, rfl, rfl, Nat.le_of_ble_eq_true rfl⟩, rfl, rfl, rfl, rfl, rfl, rfl, ⟨by exact hc, by show 0 ≤ bad; first | omega | assumption, by exact sen_nonneg ..⟩, fun h5 => ?_, fun h5 => ?_⟩
            · replace h5 : m ≤ (cntS (fun h => bitB bad h || bitB (senL b l d m hs a (k : Int)) h) hs : Int) := h5
              rw [hmn] at h5
              have tp : telP b l d m hs bad a k = true := decide_eq_true h5
              refine ⟨rfl, ⟨rfl, rfl⟩, by show (telG b l d m hs bad a k).length + ([(k : Int)] : List Int).length ≤ 1000000000; simp only [List.length_cons, List.length_nil]; omega, ⟨by show (-9223372036854775808 : Int) ≤ ((k : Int) + 1); omega, by show ((k : Int) + 1) ≤ (9223372036854775807 : Int); omega⟩, ?_⟩
              first | exact ⟨rfl, N - (k + 1), by omega, k + 1, by omega, rfl, rfl, by rw [telG_succ, if_pos tp]; rfl⟩ | exact ⟨rfl, N - (k + 1), by omega, k + 1, by omega, rfl, rfl, by rw [telG_succ, if_neg tp, List.append_nil]; rfl⟩
            · replace h5 : ¬ (m ≤ (cntS (fun h => bitB bad h || bitB (senL b l d m hs a (k : Int)) h) hs : Int)) := h5
              rw [hmn] at h5
              have tp : ¬ telP b l d m hs bad a k = true := by unfold telP; rw [decide_eq_true_eq]; exact h5
              refine ⟨⟨by show (-9223372036854775808 : Int) ≤ ((k : Int) + 1); omega, by show ((k : Int) + 1) ≤ (9223372036854775807 : Int); omega⟩, ?_⟩
              first | exact ⟨rfl, N - (k + 1), by omega, k + 1, by omega, rfl, rfl, by rw [telG_succ, if_pos tp]; rfl⟩ | exact ⟨rfl, N - (k + 1), by omega, k + 1, by omega, rfl, rfl, by rw [telG_succ, if_neg tp, List.append_nil]; rfl⟩
          · replace h4 : ¬ ((k : Int) < (cntL b l d)) := h4
            refine ⟨⟨rfl, rfl, rfl, Nat.le_of_ble_eq_true rfl⟩, ?_⟩
            rw [show telL b l d m hs bad a = telG b l d m hs bad a k by rw [telL, if_pos hr, show (cntL b l d).toNat = k by omega], hr]
            exact ⟨rfl, rfl, rfl, rfl⟩
    · replace h1 : bad < 0 := h1
      refine ⟨⟨rfl, rfl, rfl, Nat.le_of_ble_eq_true rfl⟩, ?_⟩
      have e : redL b l d m hs bad a = 1 := by unfold redL; rw [if_pos (Classical.not_not.1 h0), if_neg (by omega)]
      rw [show telL b l d m hs bad a = [] from if_neg (by rw [e]; decide), e]
      exact ⟨rfl, rfl, rfl, rfl⟩
def CRTel : List (Nat × Con) := (34, pureC [.v (.cons (.int .i64) (.cons (.int .i64) (.cons (.int .i64) (.cons (.int .i64) (.cons (.sl (.int .i64)) .nil))))), .v (.int .i64), .v (.sl (.cons (.int .i64) (.cons (.int .i64) .nil)))] sRTel) :: CRMany
theorem kRTel : Known Try.prog (En CRTel tys [] QAt) := kRMany.add Try.func34 Try.call34 [.o (.int .i64), .k] fun ds p v bs h hp => by
  unfold sRTel at h
  split at h <;> simp only [Option.some.injEq, Prod.mk.injEq, reduceCtorEq] at h
  obtain ⟨rfl, rfl, rfl⟩ := h
  exact bRTel _ _ _ _ _ _ _ hp.1 hp.2
end Go.Proofs.Ytgljcfnplkcfhaa.S29

namespace Go.Proofs.Ytgljcfnplkcfhaa.S29
open Go Go.Proofs.Ytgljcfnplkcfhaa.Vc Go.Proofs
set_option maxRecDepth 100000
set_option linter.unusedVariables false

def sRSaf : List V → Option (Prop × V × List Blk)
  | [.agg [.int .i64 b, .int .i64 l, .int .i64 d, .int .i64 m, .sl false (.int .i64) hs], .int .i64 bad, .int .i64 w, .int .i64 mo] => some (hs.length ≤ 2000000, .agg [.b (safL b l d m hs bad w mo = true), .int .i64 (safE b l d m hs bad w mo)], [])
  | _ => none
set_option maxHeartbeats 2000000 in
theorem bRSaf (b : Int) (l : Int) (d : Int) (m : Int) (hs : List Int) (bad : Int) (w : Int) (mo : Int) (hp0 : hs.length ≤ 2000000) : bodyP (En CRTel tys [] QAt) Try.f41 [.k, .k] [.agg [.int .i64 b, .int .i64 l, .int .i64 d, .int .i64 m, .sl false (.int .i64) hs], .int .i64 bad, .int .i64 w, .int .i64 mo] (.agg [.b (safL b l d m hs bad w mo = true), .int .i64 (safE b l d m hs bad w mo)]) [] := by
  refine ⟨rfl, rfl, rfl, rfl, by show hs.length ≤ 2000000; first | omega | assumption, fun h0 => ?_, fun h0 => ?_⟩
  · replace h0 : (chkL b l d m hs) ≠ 0 := h0
    refine ⟨⟨rfl, rfl, rfl, Nat.le_of_ble_eq_true rfl⟩, ?_⟩
    have e1 : safE b l d m hs bad w mo = chkL b l d m hs := by unfold safE redL; rw [if_neg h0, if_neg h0]
    have e3 : (safL b l d m hs bad w mo = true) = False := propext ⟨fun h => (by rw [safL, decide_eq_false (by rw [e1]; exact h0), Bool.false_and] at h; cases h), fun h => h.elim⟩
    rw [e1, e3]
    exact ⟨rfl, rfl, rfl, rfl⟩
  · replace h0 : ¬ ((chkL b l d m hs) ≠ 0) := h0
    have hc := chk0 (Classical.not_not.1 h0)
    obtain ⟨q1, q2, q3, q4, q5, q6, q7, q8, q9, q10, q11⟩ := id hc
    have hkm := knw_many hc bad
    have hkl : (knwL b l d hs bad : Int) ≤ (hs.length : Int) := by have := knw_le hc bad; omega
    refine ⟨fun h1 => ?_, fun h1 => ?_⟩
    · replace h1 : ¬ (bad < 0) := h1
      refine ⟨fun h2 => ?_, fun h2 => ?_⟩
      · replace h2 : 4095 < bad := h2
        refine ⟨⟨rfl, rfl, rfl, Nat.le_of_ble_eq_true rfl⟩, ?_⟩
        have e1 : safE b l d m hs bad w mo = 1 := by have hr : redL b l d m hs bad [] = 1 := by { unfold redL; rw [if_pos (Classical.not_not.1 h0), if_neg (by omega)] }; unfold safE; rw [if_neg (by rw [hr]; decide)]; exact hr
        have e3 : (safL b l d m hs bad w mo = true) = False := propext ⟨fun h => (by rw [safL, decide_eq_false (by rw [e1]; first | exact h0 | decide), Bool.false_and] at h; cases h), fun h => h.elim⟩
        rw [e1, e3]
        exact ⟨rfl, rfl, rfl, rfl⟩
      · replace h2 : ¬ (4095 < bad) := h2
        refine ⟨fun h3 => ?_, fun h3 => ?_⟩
        · replace h3 : ¬ (w < 1) := h3
          refine ⟨fun h4 => ?_, fun h4 => ?_⟩
          · replace h4 : ¬ (1000000 < w) := h4
            refine ⟨fun h5 => ?_, fun h5 => ?_⟩
            · replace h5 : ¬ (mo < 0) := h5
              refine ⟨fun h6 => ?_, fun h6 => ?_⟩
              · replace h6 : 12 < mo := h6
                refine ⟨⟨rfl, rfl, rfl, Nat.le_of_ble_eq_true rfl⟩, ?_⟩
                have e1 : safE b l d m hs bad w mo = 3 := by have hr : redL b l d m hs bad [] = 0 := by { unfold redL; rw [if_pos (Classical.not_not.1 h0), if_pos ⟨by omega, by omega⟩]; rfl }; unfold safE; rw [if_pos hr, if_neg (by omega)]
                have e3 : (safL b l d m hs bad w mo = true) = False := propext ⟨fun h => (by rw [safL, decide_eq_false (by rw [e1]; first | exact h0 | decide), Bool.false_and] at h; cases h), fun h => h.elim⟩
                rw [e1, e3]
                exact ⟨rfl, rfl, rfl, rfl⟩
              · replace h6 : ¬ (12 < mo) := h6
                have hr : redL b l d m hs bad [] = 0 := by unfold redL; rw [if_pos (Classical.not_not.1 h0), if_pos ⟨by omega, by omega⟩]; rfl
                have e0 : safE b l d m hs bad w mo = 0 := by unfold safE; rw [if_pos hr, if_pos ⟨by omega, by omega, by omega, by omega⟩]
                refine ⟨rfl, rfl, rfl, rfl, ⟨by show 0 ≤ b; first | omega | assumption, by show b ≤ l; first | omega | assumption, by show l ≤ 1000000; first | omega | assumption, by show 1 ≤ d; first | omega | assumption⟩, rfl, rfl, rfl, rfl, rfl, rfl, ⟨by exact hc, by show 0 ≤ bad; first | omega | assumption, by omega⟩, 2, [(2, .k), (3, .k), (4, .k), (8, .k), (10, .k), (11, .k), (12, .k)], fun n vs H => ∃ (k : Nat), (k : Int) ≤ cntL b l d ∧ (List.range k).all (safQ b l d m hs bad w mo) = true ∧ n = (cntL b l d).toNat - k ∧ vs = [.int .i64 w, .int .i64 mo, .ptr 0 1 0 0, .ptr 1 1 0 0, .int .i64 (cntL b l d), .int .i64 (cntS (fun h => bitB bad h || bitB 0 h) hs : Int), .int .i64 (k : Int)] ∧ H = [.cells [.int .i64 b, .int .i64 l, .int .i64 d, .int .i64 m, .sl false (.int .i64) hs], .cells [.b False, .int .i64 0]], ⟨rfl, (cntL b l d).toNat, 0, by omega, rfl, by omega, rfl, rfl⟩, ?_⟩
                rintro n vs H ⟨k, hc1_0, hc1_1, rfl, rfl, rfl⟩
                refine ⟨fun h7 => ?_, fun h7 => ?_⟩
                · replace h7 : (k : Int) < (cntL b l d) := h7
                  have ea : askL b l d m hs (k : Int) = 0 := hc.ask (by omega) h7
                  obtain ⟨w1, w2, w3, w4, w5, w6, w7⟩ := win_ok (w := w) (mo := mo) hc (by omega) (by omega) (by omega) h7
                  have hA : (cntS (fun h => bitB bad h || bitB 0 h) hs : Int) = min (hs.length : Int) ((knwL b l d hs bad : Int) + mo * ((0 : Nat) : Int)) := by rw [hkm, show ((0 : Nat) : Int) = 0 from rfl, Int.mul_zero]; omega
                  have hB : (if askL b l d m hs (k : Int) = 0 then expF b d (k : Int) else 0) = expF b d (k : Int) + ((0 : Nat) : Int) * w := by rw [if_pos ea, show ((0 : Nat) : Int) = 0 from rfl, Int.zero_mul, Int.add_zero]
                  refine ⟨rfl, rfl, rfl, rfl, rfl, by show hs.length ≤ 2000000; first | omega | assumption, ⟨rfl, rfl, rfl, Nat.le_of_ble_eq_true rfl⟩, 3, [(2, .k), (3, .k), (4, .k), (8, .k), (10, .k), (11, .k), (12, .k), (13, .k), (14, .k), (15, .k)], fun n vs H => ∃ (j : Nat), (j : Int) ≤ winL b l d w k ∧ n = (winL b l d w k).toNat - j ∧ vs = [.int .i64 w, .int .i64 mo, .ptr 0 1 0 0, .ptr 1 1 0 0, .int .i64 (cntL b l d), .int .i64 (cntS (fun h => bitB bad h || bitB 0 h) hs : Int), .int .i64 (k : Int), .ptr 2 1 0 0, .int .i64 (min (hs.length : Int) ((knwL b l d hs bad : Int) + mo * (j : Int))), .int .i64 (expF b d k + (j : Int) * w)] ∧ H = [.cells [.int .i64 b, .int .i64 l, .int .i64 d, .int .i64 m, .sl false (.int .i64) hs], .cells [.b False, .int .i64 0], .cells [.int .i64 (if askL b l d m hs (k : Int) = 0 then expF b d (k : Int) else 0), .int .i64 (if askL b l d m hs (k : Int) = 0 then expT b l d (k : Int) else 0), .int .i64 (askL b l d m hs (k : Int))]], ⟨rfl, (winL b l d w k).toNat, 0, by unfold winL; omega, by omega, by rw [hA, hB]; rfl, rfl⟩, ?_⟩
                  rintro n vs H ⟨j, hc2_0, rfl, rfl, rfl⟩
                  have hmj : 0 ≤ mo * (j : Int) := Int.mul_nonneg (by omega) (by omega)
                  have hmJ : mo * (j : Int) ≤ 20000000 := Int.le_trans (Int.mul_le_mul_of_nonneg_left hc2_0 (by omega)) w7
                  have hjw : 0 ≤ (j : Int) * w := Int.mul_nonneg (by omega) (by omega)
                  refine ⟨fun h8 => ?_, fun h8 => ?_⟩
                  · replace h8 : (expF b d k + (j : Int) * w) ≤ (min (if askL b l d m hs (k : Int) = 0 then expT b l d (k : Int) else 0) 1000000) := h8
                    rw [if_pos ea] at h8
                    have hin := (win_in (b := b) (l := l) (d := d) (q := k) (j := j) (by omega : 1 ≤ w)).1 h8
                    have hmn := mul_next mo j
                    have hmw := mul_next' w j
                    refine ⟨fun h9 => ?_, fun h9 => ?_⟩
                    · replace h9 : (min (hs.length : Int) ((knwL b l d hs bad : Int) + mo * (j : Int))) < (hs.length : Int) := h9
                      refine ⟨⟨by show (-9223372036854775808 : Int) ≤ ((min (hs.length : Int) ((knwL b l d hs bad : Int) + mo * (j : Int))) + mo); omega, by show ((min (hs.length : Int) ((knwL b l d hs bad : Int) + mo * (j : Int))) + mo) ≤ (9223372036854775807 : Int); omega⟩, fun h10 => ?_, fun h10 => ?_⟩
                      · replace h10 : mo = 0 := h10
                        have e : min (hs.length : Int) ((min (hs.length : Int) ((knwL b l d hs bad : Int) + mo * (j : Int))) + mo) = (knwL b l d hs bad : Int) + min ((hs.length : Int) - (knwL b l d hs bad : Int)) (mo * winL b l d w k) := by rw [h10, Int.zero_mul, Int.zero_mul]; omega
                        refine ⟨fun h11 => ?_, fun h11 => ?_⟩
                        · replace h11 : m ≤ (min (hs.length : Int) ((min (hs.length : Int) ((knwL b l d hs bad : Int) + mo * (j : Int))) + mo)) := h11
                          have e2 : safL b l d m hs bad w mo = false := by
                            rw [e] at h11
                            rw [safL, range_all_bad (k := k) (by omega) (decide_eq_false (by omega)), Bool.and_false]
                          have e3 : (safL b l d m hs bad w mo = true) = False := propext ⟨fun h => (by rw [e2] at h; cases h), fun h => h.elim⟩
                          refine ⟨⟨rfl, rfl, rfl, Nat.le_of_ble_eq_true rfl⟩, ?_⟩
                          rw [e0, e3]
                          exact ⟨rfl, rfl, rfl, rfl⟩
                        · replace h11 : ¬ (m ≤ (min (hs.length : Int) ((min (hs.length : Int) ((knwL b l d hs bad : Int) + mo * (j : Int))) + mo))) := h11
                          have e2 : safQ b l d m hs bad w mo k = true := by
                            rw [e] at h11
                            exact decide_eq_true (by omega)
                          refine ⟨⟨by show (-9223372036854775808 : Int) ≤ ((k : Int) + 1); omega, by show ((k : Int) + 1) ≤ (9223372036854775807 : Int); omega⟩, ?_⟩
                          exact ⟨rfl, (cntL b l d).toNat - (k + 1), by omega, k + 1, by omega, by rw [range_all_succ, hc1_1, e2]; rfl, rfl, rfl, rfl⟩
                      · replace h10 : ¬ (mo = 0) := h10
                        have hC : min (hs.length : Int) ((min (hs.length : Int) ((knwL b l d hs bad : Int) + mo * (j : Int))) + mo) = min (hs.length : Int) ((knwL b l d hs bad : Int) + mo * ((j + 1 : Nat) : Int)) := by rw [hmn]; omega
                        have hD : expF b d (k : Int) + (j : Int) * w + w = expF b d (k : Int) + ((j + 1 : Nat) : Int) * w := by rw [hmw]; omega
                        refine ⟨⟨by show (-9223372036854775808 : Int) ≤ ((expF b d k + (j : Int) * w) + w); omega, by show ((expF b d k + (j : Int) * w) + w) ≤ (9223372036854775807 : Int); omega⟩, ?_⟩
                        exact ⟨rfl, (winL b l d w k).toNat - (j + 1), by omega, j + 1, by omega, rfl, by rw [hC, hD]; rfl, rfl⟩
                    · replace h9 : ¬ ((min (hs.length : Int) ((knwL b l d hs bad : Int) + mo * (j : Int))) < (hs.length : Int)) := h9
                      have e := win_end (len := (hs.length : Int)) (kn := (knwL b l d hs bad : Int)) (mo := mo) (W := winL b l d w k) (j := j) (by omega) hc2_0 hkl (.inr (by omega))
                      refine ⟨fun h12 => ?_, fun h12 => ?_⟩
                      · replace h12 : m ≤ (min (hs.length : Int) ((knwL b l d hs bad : Int) + mo * (j : Int))) := h12
                        have e2 : safL b l d m hs bad w mo = false := by
                          rw [e] at h12
                          rw [safL, range_all_bad (k := k) (by omega) (decide_eq_false (by omega)), Bool.and_false]
                        have e3 : (safL b l d m hs bad w mo = true) = False := propext ⟨fun h => (by rw [e2] at h; cases h), fun h => h.elim⟩
                        refine ⟨⟨rfl, rfl, rfl, Nat.le_of_ble_eq_true rfl⟩, ?_⟩
                        rw [e0, e3]
                        exact ⟨rfl, rfl, rfl, rfl⟩
                      · replace h12 : ¬ (m ≤ (min (hs.length : Int) ((knwL b l d hs bad : Int) + mo * (j : Int)))) := h12
                        have e2 : safQ b l d m hs bad w mo k = true := by
                          rw [e] at h12
                          exact decide_eq_true (by omega)
                        refine ⟨⟨by show (-9223372036854775808 : Int) ≤ ((k : Int) + 1); omega, by show ((k : Int) + 1) ≤ (9223372036854775807 : Int); omega⟩, ?_⟩
                        exact ⟨rfl, (cntL b l d).toNat - (k + 1), by omega, k + 1, by omega, by rw [range_all_succ, hc1_1, e2]; rfl, rfl, rfl, rfl⟩
                  · replace h8 : ¬ ((expF b d k + (j : Int) * w) ≤ (min (if askL b l d m hs (k : Int) = 0 then expT b l d (k : Int) else 0) 1000000)) := h8
                    rw [if_pos ea] at h8
                    have hin : ¬ (j : Int) < winL b l d w k := fun g => h8 ((win_in (by omega)).2 g)
                    have e := win_end (len := (hs.length : Int)) (kn := (knwL b l d hs bad : Int)) (mo := mo) (W := winL b l d w k) (j := j) (by omega) hc2_0 hkl (.inl (by omega))
                    refine ⟨fun h13 => ?_, fun h13 => ?_⟩
                    · replace h13 : m ≤ (min (hs.length : Int) ((knwL b l d hs bad : Int) + mo * (j : Int))) := h13
                      have e2 : safL b l d m hs bad w mo = false := by
                        rw [e] at h13
                        rw [safL, range_all_bad (k := k) (by omega) (decide_eq_false (by omega)), Bool.and_false]
                      have e3 : (safL b l d m hs bad w mo = true) = False := propext ⟨fun h => (by rw [e2] at h; cases h), fun h => h.elim⟩
                      refine ⟨⟨rfl, rfl, rfl, Nat.le_of_ble_eq_true rfl⟩, ?_⟩
                      rw [e0, e3]
                      exact ⟨rfl, rfl, rfl, rfl⟩
                    · replace h13 : ¬ (m ≤ (min (hs.length : Int) ((knwL b l d hs bad : Int) + mo * (j : Int)))) := h13
                      have e2 : safQ b l d m hs bad w mo k = true := by
                        rw [e] at h13
                        exact decide_eq_true (by omega)
                      refine ⟨⟨by show (-9223372036854775808 : Int) ≤ ((k : Int) + 1); omega, by show ((k : Int) + 1) ≤ (9223372036854775807 : Int); omega⟩, ?_⟩
                      exact ⟨rfl, (cntL b l d).toNat - (k + 1), by omega, k + 1, by omega, by rw [range_all_succ, hc1_1, e2]; rfl, rfl, rfl, rfl⟩
                · replace h7 : ¬ ((k : Int) < (cntL b l d)) := h7
                  refine ⟨⟨rfl, rfl, rfl, Nat.le_of_ble_eq_true rfl⟩, ?_⟩
                  have e2 : safL b l d m hs bad w mo = true := by rw [safL, decide_eq_true e0, Bool.true_and, show (cntL b l d).toNat = k by omega]; exact hc1_1
                  rw [e0, e2]
                  exact ⟨rfl, rfl, rfl, rfl⟩
            · replace h5 : mo < 0 := h5
              refine ⟨⟨rfl, rfl, rfl, Nat.le_of_ble_eq_true rfl⟩, ?_⟩
              have e1 : safE b l d m hs bad w mo = 3 := by have hr : redL b l d m hs bad [] = 0 := by { unfold redL; rw [if_pos (Classical.not_not.1 h0), if_pos ⟨by omega, by omega⟩]; rfl }; unfold safE; rw [if_pos hr, if_neg (by omega)]
              have e3 : (safL b l d m hs bad w mo = true) = False := propext ⟨fun h => (by rw [safL, decide_eq_false (by rw [e1]; first | exact h0 | decide), Bool.false_and] at h; cases h), fun h => h.elim⟩
              rw [e1, e3]
              exact ⟨rfl, rfl, rfl, rfl⟩
          · replace h4 : 1000000 < w := h4
            refine ⟨⟨rfl, rfl, rfl, Nat.le_of_ble_eq_true rfl⟩, ?_⟩
            have e1 : safE b l d m hs bad w mo = 3 := by have hr : redL b l d m hs bad [] = 0 := by { unfold redL; rw [if_pos (Classical.not_not.1 h0), if_pos ⟨by omega, by omega⟩]; rfl }; unfold safE; rw [if_pos hr, if_neg (by omega)]
            have e3 : (safL b l d m hs bad w mo = true) = False := propext ⟨fun h => (by rw [safL, decide_eq_false (by rw [e1]; first | exact h0 | decide), Bool.false_and] at h; cases h), fun h => h.elim⟩
            rw [e1, e3]
            exact ⟨rfl, rfl, rfl, rfl⟩
        · replace h3 : w < 1 := h3
          refine ⟨⟨rfl, rfl, rfl, Nat.le_of_ble_eq_true rfl⟩, ?_⟩
          have e1 : safE b l d m hs bad w mo = 3 := by have hr : redL b l d m hs bad [] = 0 := by { unfold redL; rw [if_pos (Classical.not_not.1 h0), if_pos ⟨by omega, by omega⟩]; rfl }; unfold safE; rw [if_pos hr, if_neg (by omega)]
          have e3 : (safL b l d m hs bad w mo = true) = False := propext ⟨fun h => (by rw [safL, decide_eq_false (by rw [e1]; first | exact h0 | decide), Bool.false_and] at h; cases h), fun h => h.elim⟩
          rw [e1, e3]
          exact ⟨rfl, rfl, rfl, rfl⟩
    · replace h1 : bad < 0 := h1
      refine ⟨⟨rfl, rfl, rfl, Nat.le_of_ble_eq_true rfl⟩, ?_⟩
      have e1 : safE b l d m hs bad w mo = 1 := by have hr : redL b l d m hs bad [] = 1 := by { unfold redL; rw [if_pos (Classical.not_not.1 h0), if_neg (by omega)] }; unfold safE; rw [if_neg (by rw [hr]; decide)]; exact hr
      have e3 : (safL b l d m hs bad w mo = true) = False := propext ⟨fun h => (by rw [safL, decide_eq_false (by rw [e1]; first | exact h0 | decide), Bool.false_and] at h; cases h), fun h => h.elim⟩
      rw [e1, e3]
      exact ⟨rfl, rfl, rfl, rfl⟩
def CRSaf : List (Nat × Con) := (41, pureC [.v (.cons (.int .i64) (.cons (.int .i64) (.cons (.int .i64) (.cons (.int .i64) (.cons (.sl (.int .i64)) .nil))))), .v (.int .i64), .v (.int .i64), .v (.int .i64)] sRSaf) :: CRTel
theorem kRSaf : Known Try.prog (En CRSaf tys [] QAt) := kRTel.add Try.func41 Try.call41 [.k, .k] fun ds p v bs h hp => by
  unfold sRSaf at h
  split at h <;> simp only [Option.some.injEq, Prod.mk.injEq, reduceCtorEq] at h
  obtain ⟨rfl, rfl, rfl⟩ := h
  exact bRSaf _ _ _ _ _ _ _ _ hp
end Go.Proofs.Ytgljcfnplkcfhaa.S29

namespace Go.Proofs.Ytgljcfnplkcfhaa.S29
open Go

/-! ### a later last tick -/
theorem cnt_mono {b l x d : Int} (hd : 1 ≤ d) (h : l ≤ x) : cntL b l d ≤ cntL b x d := by
  have := Int.ediv_le_ediv (by omega : 0 < d) (by omega : l - b ≤ x - b)
  unfold cntL; omega
theorem spanT_mono {b l x d q : Int} (h : l ≤ x) : spanT b l d q ≤ spanT b x d q := by unfold spanT; omega
theorem expT_mono {b l x d q : Int} (h : l ≤ x) : expT b l d q ≤ expT b x d q := by unfold expT; omega
theorem span_same {b l x d m : Int} {hs : List Int} (hc : Cal b l d m hs) (h : l ≤ x) {q : Int} (h0 : 0 ≤ q) (h1 : q + 1 < cntL b l d) : spanT b l d q = spanT b x d q ∧ expT b l d q = expT b x d q := by
  obtain ⟨z1, z2, z3⟩ := hc.qn (q := q + 1) (by omega) h1
  rw [Int.add_mul, Int.one_mul] at z2
  unfold spanT expT
  omega
theorem exB_mono {b l x d t q : Int} (h : l ≤ x) (hx : exB b l d t q = true) : exB b x d t q = true := by
  have e := of_decide_eq_true hx
  have := expT_mono (b := b) (d := d) (q := q) h
  exact decide_eq_true ⟨e.1, by omega⟩
theorem seenC_mono {b l x d : Int} {hs : List Int} {bad : Int} {a : List Cp} {q h : Nat} (hl : l ≤ x) (hx : seenC b l d hs bad a q h = true) : seenC b x d hs bad a q h = true := by
  unfold seenC at *
  rw [Bool.and_eq_true, Bool.or_eq_true] at *
  refine ⟨hx.1, hx.2.imp_right fun g => ?_⟩
  rw [List.any_eq_true] at *
  obtain ⟨y, hy, e⟩ := g
  refine ⟨y, hy, ?_⟩
  unfold capIn at *
  rw [Bool.and_eq_true] at *
  exact ⟨e.1, exB_mono hl e.2⟩
theorem telP_mono {b l x d m : Int} {hs : List Int} {bad : Int} {a : List Cp} {q : Nat} (hl : l ≤ x) (hx : telP b l d m hs bad a q = true) : telP b x d m hs bad a q = true := by
  have e := of_decide_eq_true hx
  have := cntF_mono (f := seenC b l d hs bad a q) (g := seenC b x d hs bad a q) 12 fun i _ h => seenC_mono hl h
  exact decide_eq_true (by omega)
theorem red_eq {b l x d m : Int} {hs : List Int} (hc : Cal b l d m hs) (hx : Cal b x d m hs) (bad : Int) (a : List Cp) : redL b x d m hs bad a = redL b l d m hs bad a := by
  unfold redL; rw [hc.chk, hx.chk]
theorem mem_tel {b l d m : Int} {hs : List Int} {bad : Int} {a : List Cp} (hr : redL b l d m hs bad a = 0) {q : Nat} (hq : (q : Int) < cntL b l d) (ht : telP b l d m hs bad a q = true) : (q : Int) ∈ telL b l d m hs bad a := by
  unfold telL telG
  rw [if_pos hr]
  exact List.mem_map.2 ⟨q, List.mem_filter.2 ⟨List.mem_range.2 (by omega), ht⟩, rfl⟩
theorem tel_sub {b l x d m : Int} {hs : List Int} (hc : Cal b l d m hs) (hx : Cal b x d m hs) (hl : l ≤ x) (bad : Int) (a : List Cp) : ∀ q ∈ telL b l d m hs bad a, q ∈ telL b x d m hs bad a := by
  intro q hq
  obtain ⟨h1, h2, h3, h4⟩ := tel_mem hq
  have e : ((q.toNat : Nat) : Int) = q := by omega
  have := mem_tel (b := b) (l := x) (d := d) (m := m) (hs := hs) (bad := bad) (a := a) (by rw [red_eq hc hx]; exact h1) (q := q.toNat) (by have := cnt_mono (b := b) hc.n1 hl; omega) (telP_mono hl h4)
  rwa [e] at this

def Srt (l : List Int) : Prop := ∀ i j, i < j → j < l.length → l.getD i 0 < l.getD j 0
theorem srt_of {l : List Int} (h : l.Pairwise (· < ·)) : Srt l := by
  intro i j hij hj
  have := List.pairwise_iff_getElem.1 h i j (by omega) hj hij
  simpa [List.getD_eq_getElem?_getD, (by omega : i < l.length), hj] using this
theorem tel_pw (b l d m : Int) (hs : List Int) (bad : Int) (a : List Cp) : (telL b l d m hs bad a).Pairwise (· < ·) := by
  unfold telL
  split
  · unfold telG
    rw [List.pairwise_map]
    refine List.Pairwise.imp ?_ (List.Pairwise.filter _ (List.pairwise_lt_range))
    intro i j h
    exact Int.ofNat_lt.2 h
  · exact .nil
theorem tel_srt (b l d m : Int) (hs : List Int) (bad : Int) (a : List Cp) : Srt (telL b l d m hs bad a) := srt_of (tel_pw b l d m hs bad a)
def SubF (S T : List Int) (k i : Nat) : Prop := ∀ j, k ≤ j → j < S.length → ∃ p, i ≤ p ∧ p < T.length ∧ T.getD p 0 = S.getD j 0
theorem mem_getD {x : Int} {l : List Int} (h : x ∈ l) : ∃ p, p < l.length ∧ l.getD p 0 = x := by
  obtain ⟨p, hp, e⟩ := List.getElem_of_mem h
  exact ⟨p, hp, by simp [List.getD_eq_getElem?_getD, hp, e]⟩
theorem sub_start {S T : List Int} (h : ∀ q ∈ S, q ∈ T) : SubF S T 0 0 := fun j _ hj => by
  obtain ⟨p, h1, h2⟩ := mem_getD (h _ (getD_mem 0 S j hj))
  exact ⟨p, Nat.zero_le _, h1, h2⟩
theorem sub_next {S T : List Int} {k i : Nat} (h : SubF S T k i) : SubF S T (k + 1) i := fun j hj hl => h j (by omega) hl
theorem sub_skip {S T : List Int} {k i : Nat} (hS : Srt S) (h : SubF S T k i) (hk : k < S.length) (hlt : T.getD i 0 < S.getD k 0) : SubF S T k (i + 1) := fun j hj hl => by
  obtain ⟨p, h1, h2, h3⟩ := h j hj hl
  refine ⟨p, ?_, h2, h3⟩
  rcases Nat.lt_or_ge i p with g | g
  · exact g
  · have : i = p := by omega
    subst this
    rcases Nat.lt_or_ge k j with g2 | g2
    · have := hS k j g2 hl; omega
    · have : k = j := by omega
      subst this
      omega
theorem sub_hit {S T : List Int} {k i : Nat} (hT : Srt T) (h : SubF S T k i) (hk : k < S.length) (hge : i < T.length → ¬ T.getD i 0 < S.getD k 0) : i < T.length ∧ T.getD i 0 = S.getD k 0 := by
  obtain ⟨p, h1, h2, h3⟩ := h k (Nat.le_refl _) hk
  refine ⟨by omega, ?_⟩
  rcases Nat.lt_or_ge i p with g | g
  · have := hT i p g h2; have := hge (by omega); omega
  · have : i = p := by omega
    subst this; exact h3
theorem ext_ok {b l d m x : Int} {hs : List Int} (hc : Cal b l d m hs) (h : extE b l d m hs x = 0) : l ≤ x ∧ Cal b x d m hs := by
  unfold extE at h
  rw [if_pos hc.chk] at h
  split at h
  · omega
  · exact ⟨by omega, chk0 h⟩
theorem ext_four {b l d m x : Int} {hs : List Int} (hE : extE b l d m hs x = (if x ≤ l then 4 else chkL b x d m hs)) : x ≤ l ↔ extE b l d m hs x = 4 := by
  rw [hE]
  split
  · simp_all
  · constructor
    · intro h; omega
    · intro h
      unfold chkL at h
      repeat' split at h
      all_goals omega
end Go.Proofs.Ytgljcfnplkcfhaa.S29

namespace Go.Proofs.Ytgljcfnplkcfhaa.S29
open Go Go.Proofs.Ytgljcfnplkcfhaa.Vc Go.Proofs
set_option maxRecDepth 100000
set_option linter.unusedVariables false

def sLExt : List V → Option (Prop × V × List Blk)
  | [.agg [.int .i64 b, .int .i64 l, .int .i64 d, .int .i64 m, .sl false (.int .i64) hs], .dat false (.arr 2 (.int .i64)) nu, .sl false (.cons (.int .i64) (.cons (.int .i64) .nil)) a] => some (hs.length ≤ 1048576 ∧ nu.length = 2 ∧ a.length ≤ 1048576, .b True, [])
  | _ => none
set_option maxHeartbeats 4000000 in
theorem bLExt (b : Int) (l : Int) (d : Int) (m : Int) (hs : List Int) (nu : List Int) (a : List (Int × (Int × Unit))) (hp0 : hs.length ≤ 1048576) (hp1 : nu.length = 2) (hp2 : a.length ≤ 1048576) : bodyP (En CRSaf tys [] QAt) Try.f9 [.k] [.agg [.int .i64 b, .int .i64 l, .int .i64 d, .int .i64 m, .sl false (.int .i64) hs], .dat false (.arr 2 (.int .i64)) nu, .sl false (.cons (.int .i64) (.cons (.int .i64) .nil)) a] (.b True) [] := by
  refine ⟨⟨rfl, by first | assumption | simp⟩ /- o0 -/, rfl /- o1 -/, rfl /- o2 -/, rfl /- o3 -/, rfl /- o4 -/, by show hs.length ≤ 2000000; first | omega | assumption /- o5 -/, fun h0 => ?_, fun h0 => ?_⟩
  · replace h0 : ¬ ((chkL b l d m hs) ≠ 0) := h0  -- 0f
    refine ⟨rfl /- o6 -/, rfl /- o7 -/, rfl /- o8 -/, rfl /- o9 -/, rfl /- o10 -/, by show hs.length ≤ 2000000; first | omega | assumption /- o11 -/, fun h1 => ?_, fun h1 => ?_⟩
    · replace h1 : ¬ (¬ (fewP b l d m hs 40)) := h1  -- 1f
      refine ⟨fun h2 => ?_, fun h2 => ?_⟩
      · replace h2 : 30 < (a.length : Int) := h2  -- 2t
        refine ⟨trivial /- o12 -/, ?_⟩
        -- leaf 0: ['.b True'] | ['.cells [.int .i64 b, .int .i64 l, .int .i64 d, .int .i64 m, .sl false (.int .i64) hs]', '.row true (.int .i64) nu']
        exact ⟨rfl, rfl, congrArg V.b (propext ⟨fun _ => trivial, fun _ => by first | trivial | rfl⟩), rfl⟩
      · replace h2 : ¬ (30 < (a.length : Int)) := h2  -- 2f
        refine ⟨⟨by show (0 : Int) ≤ 0; omega, by show 0 < (2 : Int); omega, by first | assumption | simp⟩ /- o13 -/, rfl /- o14 -/, rfl /- o15 -/, rfl /- o16 -/, rfl /- o17 -/, rfl /- o18 -/, by show hs.length ≤ 2000000; first | omega | assumption /- o19 -/, ⟨rfl, rfl, rfl, Nat.le_of_ble_eq_true rfl⟩ /- o20 -/, fun h3 => ?_, fun h3 => ?_⟩
        · replace h3 : (extE b l d m hs (nu.getD 0 0)) ≠ 0 := h3  -- 3t
          have hE : extE b l d m hs (nu.getD 0 0) = (if (nu.getD 0 0) ≤ l then 4 else chkL b (nu.getD 0 0) d m hs) := by unfold extE; rw [if_pos (Classical.not_not.1 h0)]
          refine ⟨trivial /- o21 -/, fun h4 => ?_, fun h4 => absurd (show True by trivial) h4⟩
          refine ⟨⟨by show (0 : Int) ≤ 0; omega, by show 0 < (2 : Int); omega, by first | assumption | simp⟩ /- o22 -/, ?_⟩
          -- leaf 1: ['.b ((nu.getD 0 0) ≤ l ↔ (extE b l d m hs (nu.getD 0 0)) = 4)'] | ['.cells [.int .i64 b, .int .i64 l, .int .i64 d, .int .i64 m, .sl false (.int .i64) hs]', '.row true (.int .i64) nu', '.row true (.int .i64) (extH b l d m hs (nu.getD 0 0))', '.cells [.int .i64 (ext0 b l d m hs (nu.getD 0 0) b), .int .i64 (ext0 b l d m hs (nu.getD 0 0) (nu.getD 0 0)), .int .i64 (ext0 b l d m hs (nu.getD 0 0) d), .int .i64 (ext0 b l d m hs (nu.getD 0 0) m), .own (.int .i64) 2]']
          exact ⟨rfl, rfl, congrArg V.b (propext ⟨fun _ => trivial, fun _ => ext_four hE⟩), rfl⟩
        · replace h3 : ¬ ((extE b l d m hs (nu.getD 0 0)) ≠ 0) := h3  -- 3f
          have hE : extE b l d m hs (nu.getD 0 0) = 0 := Classical.not_not.1 h3
          have hc := chk0 (Classical.not_not.1 h0)
          obtain ⟨q1, q2, q3, q4, q5, q6, q7, q8, q9, q10, q11⟩ := id hc
          obtain ⟨hlx, hd⟩ := ext_ok hc hE
          have hel := extH_len b l d m hs (nu.getD 0 0)
          have hnn : (if chkL b l d m hs = 0 then cntL b l d else 0) = cntL b l d := if_pos hc.chk
          have e1 : (ext0 b l d m hs (nu.getD 0 0) b) = b := if_pos hE
          have e2 : (ext0 b l d m hs (nu.getD 0 0) (nu.getD 0 0)) = (nu.getD 0 0) := if_pos hE
          have e3 : (ext0 b l d m hs (nu.getD 0 0) d) = d := if_pos hE
          have e4 : (ext0 b l d m hs (nu.getD 0 0) m) = m := if_pos hE
          have e5 : extH b l d m hs (nu.getD 0 0) = hs := if_pos hE
          have hA : ∀ k : Nat, (0 : Int) ≤ k → (k : Int) < cntL b l d → askL b l d m hs k = 0 := fun k => hc.ask
          have hD : ∀ k : Nat, (0 : Int) ≤ k → (k : Int) < cntL b l d → askL b (nu.getD 0 0) d m hs k = 0 := fun k g0 g1 => hd.ask g0 (by have := cnt_mono (b := b) q4 hlx; omega)
          have hS : Srt (telL b l d m hs (nu.getD 1 0) a) := tel_srt _ _ _ _ _ _ _
          have hT : Srt (telL (ext0 b l d m hs (nu.getD 0 0) b) (ext0 b l d m hs (nu.getD 0 0) (nu.getD 0 0)) (ext0 b l d m hs (nu.getD 0 0) d) (ext0 b l d m hs (nu.getD 0 0) m) (extH b l d m hs (nu.getD 0 0)) (nu.getD 1 0) a) := tel_srt _ _ _ _ _ _ _
          have hSl := telL_len b l d m hs (nu.getD 1 0) a
          have hTl : (telL (ext0 b l d m hs (nu.getD 0 0) b) (ext0 b l d m hs (nu.getD 0 0) (nu.getD 0 0)) (ext0 b l d m hs (nu.getD 0 0) d) (ext0 b l d m hs (nu.getD 0 0) m) (extH b l d m hs (nu.getD 0 0)) (nu.getD 1 0) a).length ≤ 500 := by
            rw [e1, e2, e3, e4, e5]
            have := telL_len b (nu.getD 0 0) d m hs (nu.getD 1 0) a
            have := hd.c2
            omega
          refine ⟨rfl /- o23 -/, rfl /- o24 -/, rfl /- o25 -/, rfl /- o26 -/, by show hs.length ≤ 2000000; first | omega | assumption /- o27 -/, ⟨by show (0 : Int) ≤ 0; omega, by show 0 < (2 : Int); omega, by first | assumption | simp⟩ /- o28 -/, fun h5 => ?_, fun h5 => absurd h5 (show ¬ ((ext0 b l d m hs (nu.getD 0 0) (nu.getD 0 0)) ≠ (nu.getD 0 0)) by exact fun h => h e2)⟩
          refine ⟨rfl /- o29 -/, rfl /- o30 -/, rfl /- o31 -/, rfl /- o32 -/, by show (extH b l d m hs (nu.getD 0 0)).length ≤ 2000000; first | omega | assumption /- o33 -/, fun h6 => absurd h6 (show ¬ ((if chkL (ext0 b l d m hs (nu.getD 0 0) b) (ext0 b l d m hs (nu.getD 0 0) (nu.getD 0 0)) (ext0 b l d m hs (nu.getD 0 0) d) (ext0 b l d m hs (nu.getD 0 0) m) (extH b l d m hs (nu.getD 0 0)) = 0 then cntL (ext0 b l d m hs (nu.getD 0 0) b) (ext0 b l d m hs (nu.getD 0 0) (nu.getD 0 0)) (ext0 b l d m hs (nu.getD 0 0) d) else 0) < (if chkL b l d m hs = 0 then cntL b l d else 0)) by rw [e1, e2, e3, e4, e5, if_pos hc.chk, if_pos hd.chk]; have := cnt_mono (b := b) q4 (by omega : l ≤ (nu.getD 0 0)); omega), fun h6 => ?_⟩
          refine ⟨4, [(2, .k), (3, .k), (4, .k), (7, .k), (9, .k), (77, .k), (78, .k)], fun n vs H => ∃ (k : Nat), (k : Int) ≤ cntL b l d ∧ n = (cntL b l d).toNat - k ∧ vs = [.sl false (.cons (.int .i64) (.cons (.int .i64) .nil)) a, .ptr 0 1 0 0, .ptr 1 1 0 0, .ptr 3 1 0 0, .int .i64 (if chkL b l d m hs = 0 then cntL b l d else 0), .int .i64 (if chkL b l d m hs = 0 then cntL b l d else 0), .int .i64 (k : Int)] ∧ H = [.cells [.int .i64 b, .int .i64 l, .int .i64 d, .int .i64 m, .sl false (.int .i64) hs], .row true (.int .i64) nu, .row true (.int .i64) (extH b l d m hs (nu.getD 0 0)), .cells [.int .i64 (ext0 b l d m hs (nu.getD 0 0) b), .int .i64 (ext0 b l d m hs (nu.getD 0 0) (nu.getD 0 0)), .int .i64 (ext0 b l d m hs (nu.getD 0 0) d), .int .i64 (ext0 b l d m hs (nu.getD 0 0) m), .own (.int .i64) 2]], ⟨rfl, (cntL b l d).toNat, 0, by omega, by omega, rfl, rfl⟩, ?_⟩
          rintro n vs H ⟨k, hc1_0, rfl, rfl, rfl⟩
          refine ⟨fun h7 => ?_, fun h7 => ?_⟩
          · replace h7 : (k : Int) < (if chkL b l d m hs = 0 then cntL b l d else 0) := h7  -- 7t
            have hkl : (k : Int) < cntL b l d := by rwa [if_pos hc.chk] at h7
            refine ⟨rfl /- o34 -/, rfl /- o35 -/, rfl /- o36 -/, rfl /- o37 -/, rfl /- o38 -/, by show hs.length ≤ 2000000; first | omega | assumption /- o39 -/, rfl /- o40 -/, rfl /- o41 -/, rfl /- o42 -/, rfl /- o43 -/, rfl /- o44 -/, by show (extH b l d m hs (nu.getD 0 0)).length ≤ 2000000; first | omega | assumption /- o45 -/, rfl /- o46 -/, rfl /- o47 -/, rfl /- o48 -/, rfl /- o49 -/, rfl /- o50 -/, by show hs.length ≤ 2000000; first | omega | assumption /- o51 -/, rfl /- o52 -/, rfl /- o53 -/, rfl /- o54 -/, rfl /- o55 -/, rfl /- o56 -/, by show (extH b l d m hs (nu.getD 0 0)).length ≤ 2000000; first | omega | assumption /- o57 -/, fun h8 => ?_, fun h8 => absurd h8 (show ¬ ((askL b l d m hs (k : Int)) ≠ 0) by exact fun h => h (hA k (by omega) hkl))⟩
            refine ⟨fun h9 => ?_, fun h9 => absurd h9 (show ¬ ((askL (ext0 b l d m hs (nu.getD 0 0) b) (ext0 b l d m hs (nu.getD 0 0) (nu.getD 0 0)) (ext0 b l d m hs (nu.getD 0 0) d) (ext0 b l d m hs (nu.getD 0 0) m) (extH b l d m hs (nu.getD 0 0)) (k : Int)) ≠ 0) by rw [e1, e2, e3, e4, e5]; exact fun h => h (hD k (by omega) hkl))⟩
            refine ⟨fun h10 => ?_, fun h10 => absurd h10 (show ¬ ((askL b l d m hs (k : Int)) ≠ 0) by exact fun h => h (hA k (by omega) hkl))⟩
            refine ⟨fun h11 => ?_, fun h11 => absurd h11 (show ¬ ((askL (ext0 b l d m hs (nu.getD 0 0) b) (ext0 b l d m hs (nu.getD 0 0) (nu.getD 0 0)) (ext0 b l d m hs (nu.getD 0 0) d) (ext0 b l d m hs (nu.getD 0 0) m) (extH b l d m hs (nu.getD 0 0)) (k : Int)) ≠ 0) by rw [e1, e2, e3, e4, e5]; exact fun h => h (hD k (by omega) hkl))⟩
            refine ⟨fun h12 => ?_, fun h12 => absurd h12 (show ¬ ((if askL b l d m hs (k : Int) = 0 then spanF b d (k : Int) else 0) ≠ (if askL (ext0 b l d m hs (nu.getD 0 0) b) (ext0 b l d m hs (nu.getD 0 0) (nu.getD 0 0)) (ext0 b l d m hs (nu.getD 0 0) d) (ext0 b l d m hs (nu.getD 0 0) m) (extH b l d m hs (nu.getD 0 0)) (k : Int) = 0 then spanF (ext0 b l d m hs (nu.getD 0 0) b) (ext0 b l d m hs (nu.getD 0 0) d) (k : Int) else 0)) by rw [e1, e2, e3, e4, e5]; rw [if_pos (hA k (by omega) hkl), if_pos (hD k (by omega) hkl)]; exact fun h => h rfl)⟩
            refine ⟨fun h13 => ?_, fun h13 => absurd h13 (show ¬ ((if askL b l d m hs (k : Int) = 0 then expF b d (k : Int) else 0) ≠ (if askL (ext0 b l d m hs (nu.getD 0 0) b) (ext0 b l d m hs (nu.getD 0 0) (nu.getD 0 0)) (ext0 b l d m hs (nu.getD 0 0) d) (ext0 b l d m hs (nu.getD 0 0) m) (extH b l d m hs (nu.getD 0 0)) (k : Int) = 0 then expF (ext0 b l d m hs (nu.getD 0 0) b) (ext0 b l d m hs (nu.getD 0 0) d) (k : Int) else 0)) by rw [e1, e2, e3, e4, e5]; rw [if_pos (hA k (by omega) hkl), if_pos (hD k (by omega) hkl)]; exact fun h => h rfl)⟩
            refine ⟨fun h14 => ?_, fun h14 => absurd h14 (show ¬ ((if askL (ext0 b l d m hs (nu.getD 0 0) b) (ext0 b l d m hs (nu.getD 0 0) (nu.getD 0 0)) (ext0 b l d m hs (nu.getD 0 0) d) (ext0 b l d m hs (nu.getD 0 0) m) (extH b l d m hs (nu.getD 0 0)) (k : Int) = 0 then spanT (ext0 b l d m hs (nu.getD 0 0) b) (ext0 b l d m hs (nu.getD 0 0) (nu.getD 0 0)) (ext0 b l d m hs (nu.getD 0 0) d) (k : Int) else 0) < (if askL b l d m hs (k : Int) = 0 then spanT b l d (k : Int) else 0)) by rw [e1, e2, e3, e4, e5]; rw [if_pos (hA k (by omega) hkl), if_pos (hD k (by omega) hkl)]; have := spanT_mono (b := b) (d := d) (q := k) hlx; omega)⟩
            refine ⟨fun h15 => ?_, fun h15 => absurd h15 (show ¬ ((if askL (ext0 b l d m hs (nu.getD 0 0) b) (ext0 b l d m hs (nu.getD 0 0) (nu.getD 0 0)) (ext0 b l d m hs (nu.getD 0 0) d) (ext0 b l d m hs (nu.getD 0 0) m) (extH b l d m hs (nu.getD 0 0)) (k : Int) = 0 then expT (ext0 b l d m hs (nu.getD 0 0) b) (ext0 b l d m hs (nu.getD 0 0) (nu.getD 0 0)) (ext0 b l d m hs (nu.getD 0 0) d) (k : Int) else 0) < (if askL b l d m hs (k : Int) = 0 then expT b l d (k : Int) else 0)) by rw [e1, e2, e3, e4, e5]; rw [if_pos (hA k (by omega) hkl), if_pos (hD k (by omega) hkl)]; have := expT_mono (b := b) (d := d) (q := k) hlx; omega)⟩
            refine ⟨⟨by show (-9223372036854775808 : Int) ≤ ((if chkL b l d m hs = 0 then cntL b l d else 0) - 1); omega, by show ((if chkL b l d m hs = 0 then cntL b l d else 0) - 1) ≤ (9223372036854775807 : Int); omega⟩ /- o58 -/, fun h16 => ?_, fun h16 => ?_⟩
            · replace h16 : (k : Int) < ((if chkL b l d m hs = 0 then cntL b l d else 0) - 1) := h16  -- 16t
              refine ⟨fun h17 => ?_, fun h17 => absurd h17 (show ¬ ((if askL b l d m hs (k : Int) = 0 then spanT b l d (k : Int) else 0) ≠ (if askL (ext0 b l d m hs (nu.getD 0 0) b) (ext0 b l d m hs (nu.getD 0 0) (nu.getD 0 0)) (ext0 b l d m hs (nu.getD 0 0) d) (ext0 b l d m hs (nu.getD 0 0) m) (extH b l d m hs (nu.getD 0 0)) (k : Int) = 0 then spanT (ext0 b l d m hs (nu.getD 0 0) b) (ext0 b l d m hs (nu.getD 0 0) (nu.getD 0 0)) (ext0 b l d m hs (nu.getD 0 0) d) (k : Int) else 0)) by rw [e1, e2, e3, e4, e5]; rw [if_pos (hA k (by omega) hkl), if_pos (hD k (by omega) hkl)]; exact fun h => h (span_same hc hlx (by omega) (by omega)).1)⟩
              refine ⟨fun h18 => absurd h18 (show ¬ ((if askL b l d m hs (k : Int) = 0 then expT b l d (k : Int) else 0) ≠ (if askL (ext0 b l d m hs (nu.getD 0 0) b) (ext0 b l d m hs (nu.getD 0 0) (nu.getD 0 0)) (ext0 b l d m hs (nu.getD 0 0) d) (ext0 b l d m hs (nu.getD 0 0) m) (extH b l d m hs (nu.getD 0 0)) (k : Int) = 0 then expT (ext0 b l d m hs (nu.getD 0 0) b) (ext0 b l d m hs (nu.getD 0 0) (nu.getD 0 0)) (ext0 b l d m hs (nu.getD 0 0) d) (k : Int) else 0)) by rw [e1, e2, e3, e4, e5]; rw [if_pos (hA k (by omega) hkl), if_pos (hD k (by omega) hkl)]; exact fun h => h (span_same hc hlx (by omega) (by omega)).2), fun h18 => ?_⟩
              refine ⟨⟨by show (-9223372036854775808 : Int) ≤ ((k : Int) + 1); omega, by show ((k : Int) + 1) ≤ (9223372036854775807 : Int); omega⟩ /- o59 -/, ?_⟩
              exact ⟨rfl, (cntL b l d).toNat - (k + 1), by omega, k + 1, by omega, rfl, rfl, rfl⟩
            · replace h16 : ¬ ((k : Int) < ((if chkL b l d m hs = 0 then cntL b l d else 0) - 1)) := h16  -- 16f
              refine ⟨⟨by show (-9223372036854775808 : Int) ≤ ((k : Int) + 1); omega, by show ((k : Int) + 1) ≤ (9223372036854775807 : Int); omega⟩ /- o60 -/, ?_⟩
              exact ⟨rfl, (cntL b l d).toNat - (k + 1), by omega, k + 1, by omega, rfl, rfl, rfl⟩
          · replace h7 : ¬ ((k : Int) < (if chkL b l d m hs = 0 then cntL b l d else 0)) := h7  -- 7f
            refine ⟨⟨by show (0 : Int) ≤ 1; omega, by show 1 < (2 : Int); omega, by first | assumption | simp⟩ /- o61 -/, rfl /- o62 -/, rfl /- o63 -/, rfl /- o64 -/, rfl /- o65 -/, rfl /- o66 -/, ⟨by show hs.length ≤ 2000000; first | omega | assumption /- o67 -/, by show a.length ≤ 2000000; first | omega | assumption /- o68 -/⟩, ⟨by show (0 : Int) ≤ 1; omega, by show 1 < (2 : Int); omega, by first | assumption | simp⟩ /- o69 -/, rfl /- o70 -/, rfl /- o71 -/, rfl /- o72 -/, rfl /- o73 -/, rfl /- o74 -/, ⟨by show (extH b l d m hs (nu.getD 0 0)).length ≤ 2000000; first | omega | assumption /- o75 -/, by show a.length ≤ 2000000; first | omega | assumption /- o76 -/⟩, fun h19 => absurd h19 (show ¬ ((redL b l d m hs (nu.getD 1 0) a) ≠ (redL (ext0 b l d m hs (nu.getD 0 0) b) (ext0 b l d m hs (nu.getD 0 0) (nu.getD 0 0)) (ext0 b l d m hs (nu.getD 0 0) d) (ext0 b l d m hs (nu.getD 0 0) m) (extH b l d m hs (nu.getD 0 0)) (nu.getD 1 0) a)) by rw [e1, e2, e3, e4, e5]; exact fun h => h (red_eq hc hd _ _).symm), fun h19 => ?_⟩
            refine ⟨4, [(25, .o (.int .i64)), (27, .k), (179, .o (.int .i64)), (180, .k), (181, .k)], fun n vs H => ∃ (k i : Nat), k ≤ (telL b l d m hs (nu.getD 1 0) a).length ∧ i ≤ (telL (ext0 b l d m hs (nu.getD 0 0) b) (ext0 b l d m hs (nu.getD 0 0) (nu.getD 0 0)) (ext0 b l d m hs (nu.getD 0 0) d) (ext0 b l d m hs (nu.getD 0 0) m) (extH b l d m hs (nu.getD 0 0)) (nu.getD 1 0) a).length ∧ SubF (telL b l d m hs (nu.getD 1 0) a) (telL (ext0 b l d m hs (nu.getD 0 0) b) (ext0 b l d m hs (nu.getD 0 0) (nu.getD 0 0)) (ext0 b l d m hs (nu.getD 0 0) d) (ext0 b l d m hs (nu.getD 0 0) m) (extH b l d m hs (nu.getD 0 0)) (nu.getD 1 0) a) k i ∧ n = (telL b l d m hs (nu.getD 1 0) a).length - k ∧ vs = [.own (.int .i64) 4, .int .i64 (i : Int), .own (.int .i64) 5, .int .i64 (((telL b l d m hs (nu.getD 1 0) a).length : Nat) : Int), .int .i64 (k : Int)] ∧ H = [.cells [.int .i64 b, .int .i64 l, .int .i64 d, .int .i64 m, .sl false (.int .i64) hs], .row true (.int .i64) nu, .row true (.int .i64) (extH b l d m hs (nu.getD 0 0)), .cells [.int .i64 (ext0 b l d m hs (nu.getD 0 0) b), .int .i64 (ext0 b l d m hs (nu.getD 0 0) (nu.getD 0 0)), .int .i64 (ext0 b l d m hs (nu.getD 0 0) d), .int .i64 (ext0 b l d m hs (nu.getD 0 0) m), .own (.int .i64) 2], .row true (.int .i64) (telL (ext0 b l d m hs (nu.getD 0 0) b) (ext0 b l d m hs (nu.getD 0 0) (nu.getD 0 0)) (ext0 b l d m hs (nu.getD 0 0) d) (ext0 b l d m hs (nu.getD 0 0) m) (extH b l d m hs (nu.getD 0 0)) (nu.getD 1 0) a), .row true (.int .i64) (telL b l d m hs (nu.getD 1 0) a)], ⟨rfl, (telL b l d m hs (nu.getD 1 0) a).length, 0, 0, by omega, by omega, by rw [e1, e2, e3, e4, e5]; exact sub_start (tel_sub hc hd hlx _ _), by omega, rfl, rfl⟩, ?_⟩
            rintro n vs H ⟨k, i, hc2_0, hc2_1, hc2_2, rfl, rfl, rfl⟩
            refine ⟨fun h20 => ?_, fun h20 => ?_⟩
            · replace h20 : (k : Int) < (((telL b l d m hs (nu.getD 1 0) a).length : Nat) : Int) := h20  -- 20t
              refine ⟨⟨by show (0 : Int) ≤ (k : Int); omega, by show (k : Int) < ((telL b l d m hs (nu.getD 1 0) a).length : Int); omega⟩ /- o77 -/, 4, [(25, .o (.int .i64)), (27, .k), (29, .k), (179, .o (.int .i64)), (180, .k), (181, .k)], fun n vs H => ∃ (i : Nat), i ≤ (telL (ext0 b l d m hs (nu.getD 0 0) b) (ext0 b l d m hs (nu.getD 0 0) (nu.getD 0 0)) (ext0 b l d m hs (nu.getD 0 0) d) (ext0 b l d m hs (nu.getD 0 0) m) (extH b l d m hs (nu.getD 0 0)) (nu.getD 1 0) a).length ∧ SubF (telL b l d m hs (nu.getD 1 0) a) (telL (ext0 b l d m hs (nu.getD 0 0) b) (ext0 b l d m hs (nu.getD 0 0) (nu.getD 0 0)) (ext0 b l d m hs (nu.getD 0 0) d) (ext0 b l d m hs (nu.getD 0 0) m) (extH b l d m hs (nu.getD 0 0)) (nu.getD 1 0) a) k i ∧ n = (telL (ext0 b l d m hs (nu.getD 0 0) b) (ext0 b l d m hs (nu.getD 0 0) (nu.getD 0 0)) (ext0 b l d m hs (nu.getD 0 0) d) (ext0 b l d m hs (nu.getD 0 0) m) (extH b l d m hs (nu.getD 0 0)) (nu.getD 1 0) a).length - i ∧ vs = [.own (.int .i64) 4, .int .i64 (i : Int), .int .i64 ((telL b l d m hs (nu.getD 1 0) a).getD k 0), .own (.int .i64) 5, .int .i64 (((telL b l d m hs (nu.getD 1 0) a).length : Nat) : Int), .int .i64 (k : Int)] ∧ H = [.cells [.int .i64 b, .int .i64 l, .int .i64 d, .int .i64 m, .sl false (.int .i64) hs], .row true (.int .i64) nu, .row true (.int .i64) (extH b l d m hs (nu.getD 0 0)), .cells [.int .i64 (ext0 b l d m hs (nu.getD 0 0) b), .int .i64 (ext0 b l d m hs (nu.getD 0 0) (nu.getD 0 0)), .int .i64 (ext0 b l d m hs (nu.getD 0 0) d), .int .i64 (ext0 b l d m hs (nu.getD 0 0) m), .own (.int .i64) 2], .row true (.int .i64) (telL (ext0 b l d m hs (nu.getD 0 0) b) (ext0 b l d m hs (nu.getD 0 0) (nu.getD 0 0)) (ext0 b l d m hs (nu.getD 0 0) d) (ext0 b l d m hs (nu.getD 0 0) m) (extH b l d m hs (nu.getD 0 0)) (nu.getD 1 0) a), .row true (.int .i64) (telL b l d m hs (nu.getD 1 0) a)], ⟨rfl, (telL (ext0 b l d m hs (nu.getD 0 0) b) (ext0 b l d m hs (nu.getD 0 0) (nu.getD 0 0)) (ext0 b l d m hs (nu.getD 0 0) d) (ext0 b l d m hs (nu.getD 0 0) m) (extH b l d m hs (nu.getD 0 0)) (nu.getD 1 0) a).length - i, i, by omega, hc2_2, by omega, rfl, rfl⟩, ?_⟩
              rintro n vs H ⟨i, hc3_0, hc3_1, rfl, rfl, rfl⟩
              refine ⟨fun h21 => ?_, fun h21 => ?_⟩
              · replace h21 : (i : Int) < (((telL (ext0 b l d m hs (nu.getD 0 0) b) (ext0 b l d m hs (nu.getD 0 0) (nu.getD 0 0)) (ext0 b l d m hs (nu.getD 0 0) d) (ext0 b l d m hs (nu.getD 0 0) m) (extH b l d m hs (nu.getD 0 0)) (nu.getD 1 0) a).length : Nat) : Int) := h21  -- 21t
                refine ⟨⟨by show (0 : Int) ≤ (i : Int); omega, by show (i : Int) < ((telL (ext0 b l d m hs (nu.getD 0 0) b) (ext0 b l d m hs (nu.getD 0 0) (nu.getD 0 0)) (ext0 b l d m hs (nu.getD 0 0) d) (ext0 b l d m hs (nu.getD 0 0) m) (extH b l d m hs (nu.getD 0 0)) (nu.getD 1 0) a).length : Int); omega⟩ /- o78 -/, fun h22 => ?_, fun h22 => ?_⟩
                · replace h22 : ((telL (ext0 b l d m hs (nu.getD 0 0) b) (ext0 b l d m hs (nu.getD 0 0) (nu.getD 0 0)) (ext0 b l d m hs (nu.getD 0 0) d) (ext0 b l d m hs (nu.getD 0 0) m) (extH b l d m hs (nu.getD 0 0)) (nu.getD 1 0) a).getD i 0) < ((telL b l d m hs (nu.getD 1 0) a).getD k 0) := h22  -- 22t
                  refine ⟨⟨by show (-9223372036854775808 : Int) ≤ ((i : Int) + 1); omega, by show ((i : Int) + 1) ≤ (9223372036854775807 : Int); omega⟩ /- o79 -/, ?_⟩
                  exact ⟨rfl, (telL (ext0 b l d m hs (nu.getD 0 0) b) (ext0 b l d m hs (nu.getD 0 0) (nu.getD 0 0)) (ext0 b l d m hs (nu.getD 0 0) d) (ext0 b l d m hs (nu.getD 0 0) m) (extH b l d m hs (nu.getD 0 0)) (nu.getD 1 0) a).length - (i + 1), by omega, i + 1, by omega, sub_skip hS hc3_1 (by omega) h22, rfl, rfl, rfl⟩
                · replace h22 : ¬ (((telL (ext0 b l d m hs (nu.getD 0 0) b) (ext0 b l d m hs (nu.getD 0 0) (nu.getD 0 0)) (ext0 b l d m hs (nu.getD 0 0) d) (ext0 b l d m hs (nu.getD 0 0) m) (extH b l d m hs (nu.getD 0 0)) (nu.getD 1 0) a).getD i 0) < ((telL b l d m hs (nu.getD 1 0) a).getD k 0)) := h22  -- 22f
                  have hit := sub_hit hT hc3_1 (by omega) (fun _ => h22)
                  refine ⟨fun h23 => ?_, fun h23 => absurd h23 (show ¬ ((i : Int) = (((telL (ext0 b l d m hs (nu.getD 0 0) b) (ext0 b l d m hs (nu.getD 0 0) (nu.getD 0 0)) (ext0 b l d m hs (nu.getD 0 0) d) (ext0 b l d m hs (nu.getD 0 0) m) (extH b l d m hs (nu.getD 0 0)) (nu.getD 1 0) a).length : Nat) : Int)) by omega)⟩
                  refine ⟨⟨by show (0 : Int) ≤ (i : Int); omega, by show (i : Int) < ((telL (ext0 b l d m hs (nu.getD 0 0) b) (ext0 b l d m hs (nu.getD 0 0) (nu.getD 0 0)) (ext0 b l d m hs (nu.getD 0 0) d) (ext0 b l d m hs (nu.getD 0 0) m) (extH b l d m hs (nu.getD 0 0)) (nu.getD 1 0) a).length : Int); omega⟩ /- o80 -/, fun h24 => absurd h24 (show ¬ (((telL (ext0 b l d m hs (nu.getD 0 0) b) (ext0 b l d m hs (nu.getD 0 0) (nu.getD 0 0)) (ext0 b l d m hs (nu.getD 0 0) d) (ext0 b l d m hs (nu.getD 0 0) m) (extH b l d m hs (nu.getD 0 0)) (nu.getD 1 0) a).getD i 0) ≠ ((telL b l d m hs (nu.getD 1 0) a).getD k 0)) by exact fun h => h hit.2), fun h24 => ?_⟩
                  refine ⟨⟨by show (-9223372036854775808 : Int) ≤ ((k : Int) + 1); omega, by show ((k : Int) + 1) ≤ (9223372036854775807 : Int); omega⟩ /- o81 -/, ?_⟩
                  exact ⟨rfl, (telL b l d m hs (nu.getD 1 0) a).length - (k + 1), by omega, k + 1, i, by omega, by omega, sub_next hc3_1, rfl, rfl, rfl⟩
              · replace h21 : ¬ ((i : Int) < (((telL (ext0 b l d m hs (nu.getD 0 0) b) (ext0 b l d m hs (nu.getD 0 0) (nu.getD 0 0)) (ext0 b l d m hs (nu.getD 0 0) d) (ext0 b l d m hs (nu.getD 0 0) m) (extH b l d m hs (nu.getD 0 0)) (nu.getD 1 0) a).length : Nat) : Int)) := h21  -- 21f
                have hit := sub_hit hT hc3_1 (by omega) (fun g => absurd g (by omega))
                refine ⟨fun h25 => ?_, fun h25 => absurd h25 (show ¬ ((i : Int) = (((telL (ext0 b l d m hs (nu.getD 0 0) b) (ext0 b l d m hs (nu.getD 0 0) (nu.getD 0 0)) (ext0 b l d m hs (nu.getD 0 0) d) (ext0 b l d m hs (nu.getD 0 0) m) (extH b l d m hs (nu.getD 0 0)) (nu.getD 1 0) a).length : Nat) : Int)) by omega)⟩
                refine ⟨⟨by show (0 : Int) ≤ (i : Int); omega, by show (i : Int) < ((telL (ext0 b l d m hs (nu.getD 0 0) b) (ext0 b l d m hs (nu.getD 0 0) (nu.getD 0 0)) (ext0 b l d m hs (nu.getD 0 0) d) (ext0 b l d m hs (nu.getD 0 0) m) (extH b l d m hs (nu.getD 0 0)) (nu.getD 1 0) a).length : Int); omega⟩ /- o82 -/, fun h26 => absurd h26 (show ¬ (((telL (ext0 b l d m hs (nu.getD 0 0) b) (ext0 b l d m hs (nu.getD 0 0) (nu.getD 0 0)) (ext0 b l d m hs (nu.getD 0 0) d) (ext0 b l d m hs (nu.getD 0 0) m) (extH b l d m hs (nu.getD 0 0)) (nu.getD 1 0) a).getD i 0) ≠ ((telL b l d m hs (nu.getD 1 0) a).getD k 0)) by exact fun h => h hit.2), fun h26 => ?_⟩
                refine ⟨⟨by show (-9223372036854775808 : Int) ≤ ((k : Int) + 1); omega, by show ((k : Int) + 1) ≤ (9223372036854775807 : Int); omega⟩ /- o83 -/, ?_⟩
                exact ⟨rfl, (telL b l d m hs (nu.getD 1 0) a).length - (k + 1), by omega, k + 1, i, by omega, by omega, sub_next hc3_1, rfl, rfl, rfl⟩
            · replace h20 : ¬ ((k : Int) < (((telL b l d m hs (nu.getD 1 0) a).length : Nat) : Int)) := h20  -- 20f
              refine ⟨trivial /- o84 -/, ?_⟩
              -- leaf 2: ['.b True'] | ['.cells [.int .i64 b, .int .i64 l, .int .i64 d, .int .i64 m, .sl false (.int .i64) hs]', '.row true (.int .i64) nu', '.row true (.int .i64) (extH b l d m hs (nu.getD 0 0))', '.cells [.int .i64 (ext0 b l d m hs (nu.getD 0 0) b), .int .i64 (ext0 b l d m hs (nu.getD 0 0) (nu.getD 0 0)), .int .i64 (ext0 b l d m hs (nu.getD 0 0) d), .int .i64 (ext0 b l d m hs (nu.getD 0 0) m), .own (.int .i64) 2]', '.row true (.int .i64) (telL (ext0 b l d m hs (nu.getD 0 0) b) (ext0 b l d m hs (nu.getD 0 0) (nu.getD 0 0)) (ext0 b l d m hs (nu.getD 0 0) d) (ext0 b l d m hs (nu.getD 0 0) m) (extH b l d m hs (nu.getD 0 0)) (nu.getD 1 0) a)', '.row true (.int .i64) (telL b l d m hs (nu.getD 1 0) a)']
              exact ⟨rfl, rfl, congrArg V.b (propext ⟨fun _ => trivial, fun _ => by first | trivial | rfl⟩), rfl⟩
    · replace h1 : ¬ (fewP b l d m hs 40) := h1  -- 1t
      refine ⟨trivial /- o85 -/, ?_⟩
      -- leaf 3: ['.b True'] | ['.cells [.int .i64 b, .int .i64 l, .int .i64 d, .int .i64 m, .sl false (.int .i64) hs]', '.row true (.int .i64) nu']
      exact ⟨rfl, rfl, congrArg V.b (propext ⟨fun _ => trivial, fun _ => by first | trivial | rfl⟩), rfl⟩
  · replace h0 : (chkL b l d m hs) ≠ 0 := h0  -- 0t
    refine ⟨trivial /- o86 -/, ?_⟩
    -- leaf 4: ['.b True'] | ['.cells [.int .i64 b, .int .i64 l, .int .i64 d, .int .i64 m, .sl false (.int .i64) hs]', '.row true (.int .i64) nu']
    exact ⟨rfl, rfl, congrArg V.b (propext ⟨fun _ => trivial, fun _ => by first | trivial | rfl⟩), rfl⟩
end Go.Proofs.Ytgljcfnplkcfhaa.S29

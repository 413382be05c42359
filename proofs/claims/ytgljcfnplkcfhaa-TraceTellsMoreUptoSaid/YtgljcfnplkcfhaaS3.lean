/- Texts of this claim: S38.A9, S38.Qm, S38.RS, S38.L1, S38.Qn. -/
import Derived.Test.YtgljcfnplkcfhaaS2
set_option linter.unusedVariables false
set_option linter.unusedSimpArgs false
namespace Go.Proofs.Ytgljcfnplkcfhaa.S38
open Go Go.Proofs.Ytgljcfnplkcfhaa.Vc Go.Proofs
set_option maxRecDepth 100000
set_option linter.unusedVariables false

noncomputable def sPur : List V → Option (Prop × V × List Blk)
  | [.sl false (.cons (.int .i64) (.cons (.int .i64) (.cons (.int .i64) (.cons (.sl (.int .i64)) (.cons (.int .i64) (.cons (.int .i64) (.cons (.int .i64) (.cons (.int .i64) (.cons (.int .i64) (.cons (.int .i64) .nil)))))))))) l, .int .i64 o, .int .i64 t] => some (l.length ≤ 1048576 ∧ (∀ a ∈ l, a.2.2.2.1.length ≤ 1048576), .tup [.own (.cons (.int .i64) (.cons (.int .i64) (.cons (.int .i64) (.cons (.sl (.int .i64)) (.cons (.int .i64) (.cons (.int .i64) (.cons (.int .i64) (.cons (.int .i64) (.cons (.int .i64) (.cons (.int .i64) .nil)))))))))) 0, .int .i64 (purE l o t)], [.row false (.cons (.int .i64) (.cons (.int .i64) (.cons (.int .i64) (.cons (.sl (.int .i64)) (.cons (.int .i64) (.cons (.int .i64) (.cons (.int .i64) (.cons (.int .i64) (.cons (.int .i64) (.cons (.int .i64) .nil)))))))))) (purL l o t)])
  | _ => none
set_option maxHeartbeats 2000000 in
theorem bPur (l : List (Int × (Int × (Int × (List Int × (Int × (Int × (Int × (Int × (Int × (Int × Unit))))))))))) (o : Int) (t : Int) (hp0 : l.length ≤ 1048576) (hp1 : (∀ a ∈ l, a.2.2.2.1.length ≤ 1048576)) : bodyI (En CTol tys [] QOfs) Try.f54 [.w (.cons (.int .i64) (.cons (.int .i64) (.cons (.int .i64) (.cons (.sl (.int .i64)) (.cons (.int .i64) (.cons (.int .i64) (.cons (.int .i64) (.cons (.int .i64) (.cons (.int .i64) (.cons (.int .i64) .nil)))))))))), .k] [.sl false (.cons (.int .i64) (.cons (.int .i64) (.cons (.int .i64) (.cons (.sl (.int .i64)) (.cons (.int .i64) (.cons (.int .i64) (.cons (.int .i64) (.cons (.int .i64) (.cons (.int .i64) (.cons (.int .i64) .nil)))))))))) l, .int .i64 o, .int .i64 t] (.tup [.own (.cons (.int .i64) (.cons (.int .i64) (.cons (.int .i64) (.cons (.sl (.int .i64)) (.cons (.int .i64) (.cons (.int .i64) (.cons (.int .i64) (.cons (.int .i64) (.cons (.int .i64) (.cons (.int .i64) .nil)))))))))) 0, .int .i64 (purE l o t)]) [.row false (.cons (.int .i64) (.cons (.int .i64) (.cons (.int .i64) (.cons (.sl (.int .i64)) (.cons (.int .i64) (.cons (.int .i64) (.cons (.int .i64) (.cons (.int .i64) (.cons (.int .i64) (.cons (.int .i64) .nil)))))))))) (purL l o t)] := by
 refine ⟨rfl, rfl, rfl, rfl, ⟨by show l.length ≤ 1048576; first | omega | assumption, by first | assumption | simp⟩, fun h0 => ?_, fun h0 => ?_⟩
 ·replace h0 : (askE l o t 0 1000000) ≠ 0 := h0
  have e1 : purE l o t = askE l o t 0 1000000 := if_pos h0
  have e2 := pur_err (show purE l o t ≠ 0 by rw [e1]; exact h0)
  rw [e1, e2]
  exact ⟨rfl, rfl, rfl, rfl⟩
 ·replace h0 : ¬ ((askE l o t 0 1000000) ≠ 0) := h0
  have hk0 : askE l o t 0 1000000 = 0 := Classical.not_not.1 h0
  obtain ⟨hc, ho, ht⟩ := ask_ok hk0
  have hl4 := (chk_ok hc).1
  refine ⟨by show l.length ≤ 1048576; first | omega | assumption, 0, [(1, .k), (2, .k), (9, .w (.cons (.int .i64) (.cons (.int .i64) (.cons (.int .i64) (.cons (.sl (.int .i64)) (.cons (.int .i64) (.cons (.int .i64) (.cons (.int .i64) (.cons (.int .i64) (.cons (.int .i64) (.cons (.int .i64) .nil))))))))))), (21, .k), (22, .k), (23, .k)], fun nM vs H => ∃ (k : Nat), k ≤ l.length ∧ (l.take k).any (futB o t) = false ∧ nM = l.length - k ∧ vs = [.int .i64 o, .int .i64 t, .own (.cons (.int .i64) (.cons (.int .i64) (.cons (.int .i64) (.cons (.sl (.int .i64)) (.cons (.int .i64) (.cons (.int .i64) (.cons (.int .i64) (.cons (.int .i64) (.cons (.int .i64) (.cons (.int .i64) .nil)))))))))) 0, .sl false (.cons (.int .i64) (.cons (.int .i64) (.cons (.int .i64) (.cons (.sl (.int .i64)) (.cons (.int .i64) (.cons (.int .i64) (.cons (.int .i64) (.cons (.int .i64) (.cons (.int .i64) (.cons (.int .i64) .nil)))))))))) l, .int .i64 (l.length : Int), .int .i64 (k : Int)] ∧ H = [.row false (.cons (.int .i64) (.cons (.int .i64) (.cons (.int .i64) (.cons (.sl (.int .i64)) (.cons (.int .i64) (.cons (.int .i64) (.cons (.int .i64) (.cons (.int .i64) (.cons (.int .i64) (.cons (.int .i64) .nil)))))))))) (purK o t l k)], ⟨rfl, l.length, 0, by omega, rfl, by omega, rfl, rfl⟩, ?_⟩
  rintro nM vs H ⟨k, hc1_0, hc1_1, rfl, rfl, rfl⟩
  refine ⟨fun h1 => ?_, fun h1 => ?_⟩
  ·replace h1 : (k : Int) < (l.length : Int) := h1
   have hk : k < l.length := by omega
   have hpk : (purK o t l k).length = l.length := purK_len
   have hpg : (purK o t l k).getD k d0 = (l.getD k d0) := purK_get hk
   refine ⟨⟨by show (0 : Int) ≤ (k : Int); omega, by show (k : Int) < (l.length : Int); omega⟩, ⟨rfl, rfl, rfl, Nat.le_of_ble_eq_true rfl⟩, fun h2 => ?_, fun h2 => ?_⟩
   ·replace h2 : ¬ ((l.getD k d0).2.2.1 ≠ o) := h2
    refine ⟨fun h3 => ?_, fun h3 => ?_⟩
    ·replace h3 : (l.getD k d0).2.1 = 4 := h3
     refine ⟨⟨by show (-9223372036854775808 : Int) ≤ ((k : Int) + 1); omega, by show ((k : Int) + 1) ≤ (9223372036854775807 : Int); omega⟩, ?_⟩
     exact ⟨rfl, l.length - (k + 1), by omega, k + 1, by omega, fut_next hk hc1_1 (by rintro ⟨g1, g2, g3⟩; first | omega | (exact absurd g1 (by assumption)) | (exact absurd (by assumption) g2)), rfl, rfl, by rw [purK_f hk (by rintro ⟨g1, g2, g3⟩; first | omega | (exact absurd g1 (by assumption)) | (exact absurd (by assumption) g2) | (exact absurd g3 (by assumption)))]; rfl⟩
    ·replace h3 : ¬ ((l.getD k d0).2.1 = 4) := h3
     refine ⟨fun h4 => ?_, fun h4 => ?_⟩
     ·replace h4 : t < (l.getD k d0).2.2.2.2.2.2.1 := h4
      have e1 : purE l o t = 4 := pur_fut hk0 hk (by assumption) (by assumption) (by assumption)
      have e2 := pur_err (show purE l o t ≠ 0 by rw [e1]; decide)
      rw [e1, e2]
      exact ⟨rfl, rfl, rfl, rfl⟩
     ·replace h4 : ¬ (t < (l.getD k d0).2.2.2.2.2.2.1) := h4
      refine ⟨rfl, rfl, rfl, rfl, rfl, rfl, rfl, rfl, rfl, rfl, trivial, fun h5 => ?_, fun h5 => ?_⟩
      ·replace h5 : ((l.getD k d0).2.2.2.2.2.2.1 ≤ t ∧ t < (l.getD k d0).2.2.2.2.2.2.2.1) := h5
       refine ⟨⟨by show (0 : Int) ≤ (k : Int); omega, by show (k : Int) < ((purK o t l k).length : Int); omega⟩, rfl, ⟨rfl, rfl⟩, ⟨by show (-9223372036854775808 : Int) ≤ ((k : Int) + 1); omega, by show ((k : Int) + 1) ≤ (9223372036854775807 : Int); omega⟩, ?_⟩
       exact ⟨rfl, l.length - (k + 1), by omega, k + 1, by omega, fut_next hk hc1_1 (by rintro ⟨g1, g2, g3⟩; omega), rfl, rfl, by rw [purK_t hk ⟨by omega, by omega, by assumption⟩]; rfl⟩
      ·replace h5 : ¬ ((l.getD k d0).2.2.2.2.2.2.1 ≤ t ∧ t < (l.getD k d0).2.2.2.2.2.2.2.1) := h5
       refine ⟨⟨by show (-9223372036854775808 : Int) ≤ ((k : Int) + 1); omega, by show ((k : Int) + 1) ≤ (9223372036854775807 : Int); omega⟩, ?_⟩
       exact ⟨rfl, l.length - (k + 1), by omega, k + 1, by omega, fut_next hk hc1_1 (by rintro ⟨g1, g2, g3⟩; first | omega | (exact absurd g1 (by assumption)) | (exact absurd (by assumption) g2)), rfl, rfl, by rw [purK_f hk (by rintro ⟨g1, g2, g3⟩; first | omega | (exact absurd g1 (by assumption)) | (exact absurd (by assumption) g2) | (exact absurd g3 (by assumption)))]; rfl⟩
   ·replace h2 : (l.getD k d0).2.2.1 ≠ o := h2
    refine ⟨⟨by show (-9223372036854775808 : Int) ≤ ((k : Int) + 1); omega, by show ((k : Int) + 1) ≤ (9223372036854775807 : Int); omega⟩, ?_⟩
    exact ⟨rfl, l.length - (k + 1), by omega, k + 1, by omega, fut_next hk hc1_1 (by rintro ⟨g1, g2, g3⟩; first | omega | (exact absurd g1 (by assumption)) | (exact absurd (by assumption) g2)), rfl, rfl, by rw [purK_f hk (by rintro ⟨g1, g2, g3⟩; first | omega | (exact absurd g1 (by assumption)) | (exact absurd (by assumption) g2) | (exact absurd g3 (by assumption)))]; rfl⟩
  ·replace h1 : ¬ ((k : Int) < (l.length : Int)) := h1
   have hpe : purK o t l k = purF o t l := purK_end (by omega)
   have hpl : (purK o t l k).length ≤ 1048576 := by rw [hpe, purF_len]; exact hp0
   have hpo : ∀ a ∈ purK o t l k, a.2.2.2.1.length ≤ 1048576 := by rw [hpe]; exact purF_of hp1
   refine ⟨⟨by show (purK o t l k).length ≤ 1048576; first | omega | assumption, by assumption⟩, fun h6 => ?_, fun h6 => ?_⟩
   ·replace h6 : (chkL (purK o t l k)) ≠ 0 := h6
    have e1 : purE l o t = 4 := pur_bad hk0 (by rw [← hpe]; assumption)
    have e2 := pur_err (show purE l o t ≠ 0 by rw [e1]; decide)
    rw [e1, e2]
    exact ⟨rfl, rfl, rfl, rfl⟩
   ·replace h6 : ¬ ((chkL (purK o t l k)) ≠ 0) := h6
    have e1 : purE l o t = 0 := pur_ok hk0 (by rw [← hc1_1, List.take_of_length_le (by omega)]) (by rw [← hpe]; exact Classical.not_not.1 (by assumption))
    have e2 := pur_yes e1
    rw [e1, e2, hpe]
    exact ⟨rfl, rfl, rfl, rfl⟩
def CPur : List (Nat × Con) := (54, immC [.v (.sl (.cons (.int .i64) (.cons (.int .i64) (.cons (.int .i64) (.cons (.sl (.int .i64)) (.cons (.int .i64) (.cons (.int .i64) (.cons (.int .i64) (.cons (.int .i64) (.cons (.int .i64) (.cons (.int .i64) .nil))))))))))), .v (.int .i64), .v (.int .i64)] sPur) :: CTol
theorem kPur : Known Try.prog (En CPur tys [] QOfs) := kTol.addI Try.func54 Try.call54 [.w (.cons (.int .i64) (.cons (.int .i64) (.cons (.int .i64) (.cons (.sl (.int .i64)) (.cons (.int .i64) (.cons (.int .i64) (.cons (.int .i64) (.cons (.int .i64) (.cons (.int .i64) (.cons (.int .i64) .nil)))))))))), .k] fun ds p v bs h hp => by
  unfold sPur at h
  split at h <;> simp only [Option.some.injEq, Prod.mk.injEq, reduceCtorEq] at h
  obtain ⟨rfl, rfl, rfl⟩ := h
  exact bPur _ _ _ hp.1 hp.2
noncomputable def sEn1 : List V → Option (Prop × V × List Blk)
  | [.agg [.int .i64 id, .int .i64 kd, .int .i64 ob, .sl false (.int .i64) of, .int .i64 ho, .int .i64 di, .int .i64 bo, .int .i64 go, .int .i64 hr, .int .i64 pe], .rp false (.int .i64) t 0, .rp false (.int .i64) i 0] => some (of.length ≤ 1048576, .b (t ≤ bo ∧ i ∈ of), [])
  | _ => none
set_option maxHeartbeats 1000000 in
theorem bEn1 (id : Int) (kd : Int) (ob : Int) (of : List Int) (ho : Int) (di : Int) (bo : Int) (go : Int) (hr : Int) (pe : Int) (t : Int) (i : Int) (hp0 : of.length ≤ 1048576) : bodyP (En CPur tys [] QOfs) Try.f98 [.k] [.agg [.int .i64 id, .int .i64 kd, .int .i64 ob, .sl false (.int .i64) of, .int .i64 ho, .int .i64 di, .int .i64 bo, .int .i64 go, .int .i64 hr, .int .i64 pe], .rp false (.int .i64) t 0, .rp false (.int .i64) i 0] (.b (t ≤ bo ∧ i ∈ of)) [] := by
 refine ⟨fun h0 => ?_, fun h0 => ?_⟩
 ·replace h0 : t ≤ bo := h0
  refine ⟨rfl, by show of.length ≤ 1048576; first | omega | assumption, ?_⟩
  exact ⟨rfl, rfl, congrArg V.b (propext (by constructor <;> intro h <;> first | exact ⟨by assumption, h⟩ | exact h.2 | exact Bool.noConfusion h | exact absurd h.1 (by assumption))), rfl⟩
 ·replace h0 : ¬ (t ≤ bo) := h0
  exact ⟨rfl, rfl, congrArg V.b (propext (by constructor <;> intro h <;> first | exact ⟨by assumption, h⟩ | exact h.2 | exact Bool.noConfusion h | exact absurd h.1 (by assumption))), rfl⟩
def CEn1 : List (Nat × Con) := (98, pureC [.v (.cons (.int .i64) (.cons (.int .i64) (.cons (.int .i64) (.cons (.sl (.int .i64)) (.cons (.int .i64) (.cons (.int .i64) (.cons (.int .i64) (.cons (.int .i64) (.cons (.int .i64) (.cons (.int .i64) .nil)))))))))), .ref (.int .i64), .ref (.int .i64)] sEn1) :: CPur
theorem kEn1 : Known Try.prog (En CEn1 tys [] QOfs) := kPur.add Try.func98 Try.call98 [.k] fun ds p v bs h hp => by
  unfold sEn1 at h
  split at h <;> simp only [Option.some.injEq, Prod.mk.injEq, reduceCtorEq] at h
  obtain ⟨rfl, rfl, rfl⟩ := h
  exact bEn1 _ _ _ _ _ _ _ _ _ _ _ _ hp
set_option maxHeartbeats 1000000 in
theorem bIxB0 (s : List (Int × (Int × (Int × (List Int × (Int × (Int × (Int × (Int × (Int × (Int × Unit))))))))))) (t : Int) (i : Int) (hp0 : s.length ≤ 1048576) (hp1 : (∀ a ∈ s, a.2.2.2.1.length ≤ 1048576)) : bodyP (En CEn1 tys [] QOfs) Try.f126 [.k] [.sl false (.cons (.int .i64) (.cons (.int .i64) (.cons (.int .i64) (.cons (.sl (.int .i64)) (.cons (.int .i64) (.cons (.int .i64) (.cons (.int .i64) (.cons (.int .i64) (.cons (.int .i64) (.cons (.int .i64) .nil)))))))))) s, .fn 98 [.rp false (.int .i64) t 0, .rp false (.int .i64) i 0]] (.int .i64 (ixP (fun a : (Int × (Int × (Int × (List Int × (Int × (Int × (Int × (Int × (Int × (Int × Unit)))))))))) => decide (t ≤ a.2.2.2.2.2.2.1 ∧ i ∈ a.2.2.2.1)) s 0)) [] := by
 refine ⟨0, [(0, .k), (1, .k), (7, .k), (8, .k)], fun nM vs H => ∃ (k : Nat), k ≤ s.length ∧ (ixP (fun a : (Int × (Int × (Int × (List Int × (Int × (Int × (Int × (Int × (Int × (Int × Unit)))))))))) => decide (t ≤ a.2.2.2.2.2.2.1 ∧ i ∈ a.2.2.2.1)) (s.drop k) k = ixP (fun a : (Int × (Int × (Int × (List Int × (Int × (Int × (Int × (Int × (Int × (Int × Unit)))))))))) => decide (t ≤ a.2.2.2.2.2.2.1 ∧ i ∈ a.2.2.2.1)) s 0) ∧ nM = s.length - k ∧ vs = [.sl false (.cons (.int .i64) (.cons (.int .i64) (.cons (.int .i64) (.cons (.sl (.int .i64)) (.cons (.int .i64) (.cons (.int .i64) (.cons (.int .i64) (.cons (.int .i64) (.cons (.int .i64) (.cons (.int .i64) .nil)))))))))) s, .fn 98 [.rp false (.int .i64) t 0, .rp false (.int .i64) i 0], .int .i64 (s.length : Int), .int .i64 (k : Int)] ∧ H = [], ⟨rfl, s.length, 0, by omega, rfl, by omega, rfl, rfl⟩, ?_⟩
 rintro nM vs H ⟨k, hc1_0, hc1_1, rfl, rfl, rfl⟩
 refine ⟨fun h0 => ?_, fun h0 => ?_⟩
 ·replace h0 : (k : Int) < (s.length : Int) := h0
  have hk : k < s.length := by omega
  have hof := hp1 _ (getD_mem d0 s k hk)
  rw [drop_one d0 s k hk, ixP] at hc1_1
  refine ⟨⟨by show (0 : Int) ≤ (k : Int); omega, by show (k : Int) < (s.length : Int); omega⟩, rfl, rfl, rfl, rfl, rfl, rfl, rfl, rfl, rfl, by show (s.getD k d0).2.2.2.1.length ≤ 1048576; first | omega | assumption, fun h1 => ?_, fun h1 => ?_⟩
  ·replace h1 : (t ≤ (s.getD k d0).2.2.2.2.2.2.1 ∧ i ∈ (s.getD k d0).2.2.2.1) := h1
   rw [if_pos (decide_eq_true h1)] at hc1_1
   rw [← hc1_1]
   exact ⟨rfl, rfl, rfl, rfl⟩
  ·replace h1 : ¬ (t ≤ (s.getD k d0).2.2.2.2.2.2.1 ∧ i ∈ (s.getD k d0).2.2.2.1) := h1
   rw [if_neg (by simpa using h1)] at hc1_1
   refine ⟨⟨by show (-9223372036854775808 : Int) ≤ ((k : Int) + 1); omega, by show ((k : Int) + 1) ≤ (9223372036854775807 : Int); omega⟩, ?_⟩
   exact ⟨rfl, s.length - (k + 1), by omega, k + 1, by omega, hc1_1, rfl, rfl, rfl⟩
 ·replace h0 : ¬ ((k : Int) < (s.length : Int)) := h0
  rw [List.drop_eq_nil_of_le (by omega), ixP] at hc1_1
  rw [← hc1_1]
  exact ⟨rfl, rfl, rfl, rfl⟩
noncomputable def sIxB : List V → Option (Prop × V × List Blk)
  | [.sl false (.cons (.int .i64) (.cons (.int .i64) (.cons (.int .i64) (.cons (.sl (.int .i64)) (.cons (.int .i64) (.cons (.int .i64) (.cons (.int .i64) (.cons (.int .i64) (.cons (.int .i64) (.cons (.int .i64) .nil)))))))))) s, .fn 98 [.rp false (.int .i64) t 0, .rp false (.int .i64) i 0]] => some (s.length ≤ 1048576 ∧ (∀ a ∈ s, a.2.2.2.1.length ≤ 1048576), .int .i64 (ixP (fun a : (Int × (Int × (Int × (List Int × (Int × (Int × (Int × (Int × (Int × (Int × Unit)))))))))) => decide (t ≤ a.2.2.2.2.2.2.1 ∧ i ∈ a.2.2.2.1)) s 0), [])
  | _ => none
def CIxB : List (Nat × Con) := (126, pureC [.v (.sl (.cons (.int .i64) (.cons (.int .i64) (.cons (.int .i64) (.cons (.sl (.int .i64)) (.cons (.int .i64) (.cons (.int .i64) (.cons (.int .i64) (.cons (.int .i64) (.cons (.int .i64) (.cons (.int .i64) .nil))))))))))), .fn [(98, [.ref (.int .i64), .ref (.int .i64)])]] sIxB) :: CEn1
theorem kIxB : Known Try.prog (En CIxB tys [] QOfs) := kEn1.add Try.func126 Try.call126 [.k] fun ds p v bs h hp => by
  unfold sIxB at h
  split at h <;> simp only [Option.some.injEq, Prod.mk.injEq, reduceCtorEq] at h
  · obtain ⟨rfl, rfl, rfl⟩ := h
    exact bIxB0 _ _ _ hp.1 hp.2
set_option maxHeartbeats 1000000 in
theorem bCfB0 (s : List (Int × (Int × (Int × (List Int × (Int × (Int × (Int × (Int × (Int × (Int × Unit))))))))))) (t : Int) (i : Int) (hp0 : s.length ≤ 1048576) (hp1 : (∀ a ∈ s, a.2.2.2.1.length ≤ 1048576)) : bodyP (En CIxB tys [] QOfs) Try.f97 [.k] [.sl false (.cons (.int .i64) (.cons (.int .i64) (.cons (.int .i64) (.cons (.sl (.int .i64)) (.cons (.int .i64) (.cons (.int .i64) (.cons (.int .i64) (.cons (.int .i64) (.cons (.int .i64) (.cons (.int .i64) .nil)))))))))) s, .fn 98 [.rp false (.int .i64) t 0, .rp false (.int .i64) i 0]] (.b (∃ a ∈ s, (t ≤ a.2.2.2.2.2.2.1 ∧ i ∈ a.2.2.2.1))) [] := by
 refine ⟨⟨by show s.length ≤ 1048576; first | omega | assumption, by first | assumption | simp⟩, ?_⟩
 exact ⟨rfl, rfl, congrArg V.b (propext (ixP_isG (fun a : (Int × (Int × (Int × (List Int × (Int × (Int × (Int × (Int × (Int × (Int × Unit)))))))))) => decide (t ≤ a.2.2.2.2.2.2.1 ∧ i ∈ a.2.2.2.1)) s fun i => decide_eq_true_iff)), rfl⟩
noncomputable def sCfB : List V → Option (Prop × V × List Blk)
  | [.sl false (.cons (.int .i64) (.cons (.int .i64) (.cons (.int .i64) (.cons (.sl (.int .i64)) (.cons (.int .i64) (.cons (.int .i64) (.cons (.int .i64) (.cons (.int .i64) (.cons (.int .i64) (.cons (.int .i64) .nil)))))))))) s, .fn 98 [.rp false (.int .i64) t 0, .rp false (.int .i64) i 0]] => some (s.length ≤ 1048576 ∧ (∀ a ∈ s, a.2.2.2.1.length ≤ 1048576), .b (∃ a ∈ s, (t ≤ a.2.2.2.2.2.2.1 ∧ i ∈ a.2.2.2.1)), [])
  | _ => none
def CCfB : List (Nat × Con) := (97, pureC [.v (.sl (.cons (.int .i64) (.cons (.int .i64) (.cons (.int .i64) (.cons (.sl (.int .i64)) (.cons (.int .i64) (.cons (.int .i64) (.cons (.int .i64) (.cons (.int .i64) (.cons (.int .i64) (.cons (.int .i64) .nil))))))))))), .fn [(98, [.ref (.int .i64), .ref (.int .i64)])]] sCfB) :: CIxB
theorem kCfB : Known Try.prog (En CCfB tys [] QOfs) := kIxB.add Try.func97 Try.call97 [.k] fun ds p v bs h hp => by
  unfold sCfB at h
  split at h <;> simp only [Option.some.injEq, Prod.mk.injEq, reduceCtorEq] at h
  · obtain ⟨rfl, rfl, rfl⟩ := h
    exact bCfB0 _ _ _ hp.1 hp.2
noncomputable def sEnd : List V → Option (Prop × V × List Blk)
  | [.sl false (.cons (.int .i64) (.cons (.int .i64) (.cons (.int .i64) (.cons (.sl (.int .i64)) (.cons (.int .i64) (.cons (.int .i64) (.cons (.int .i64) (.cons (.int .i64) (.cons (.int .i64) (.cons (.int .i64) .nil)))))))))) l, .int .i64 i, .int .i64 t] => some (l.length ≤ 1048576 ∧ (∀ a ∈ l, a.2.2.2.1.length ≤ 1048576), .tup [.own (.cons (.int .i64) (.cons (.int .i64) (.cons (.int .i64) (.cons (.sl (.int .i64)) (.cons (.int .i64) (.cons (.int .i64) (.cons (.int .i64) (.cons (.int .i64) (.cons (.int .i64) (.cons (.int .i64) .nil)))))))))) 0, .int .i64 (endE l i t)], [.row false (.cons (.int .i64) (.cons (.int .i64) (.cons (.int .i64) (.cons (.sl (.int .i64)) (.cons (.int .i64) (.cons (.int .i64) (.cons (.int .i64) (.cons (.int .i64) (.cons (.int .i64) (.cons (.int .i64) .nil)))))))))) (endL l i t)])
  | _ => none
set_option maxHeartbeats 1000000 in
theorem bEnd (l : List (Int × (Int × (Int × (List Int × (Int × (Int × (Int × (Int × (Int × (Int × Unit))))))))))) (i : Int) (t : Int) (hp0 : l.length ≤ 1048576) (hp1 : (∀ a ∈ l, a.2.2.2.1.length ≤ 1048576)) : bodyI (En CCfB tys [] QOfs) Try.f48 [.w (.cons (.int .i64) (.cons (.int .i64) (.cons (.int .i64) (.cons (.sl (.int .i64)) (.cons (.int .i64) (.cons (.int .i64) (.cons (.int .i64) (.cons (.int .i64) (.cons (.int .i64) (.cons (.int .i64) .nil)))))))))), .k] [.sl false (.cons (.int .i64) (.cons (.int .i64) (.cons (.int .i64) (.cons (.sl (.int .i64)) (.cons (.int .i64) (.cons (.int .i64) (.cons (.int .i64) (.cons (.int .i64) (.cons (.int .i64) (.cons (.int .i64) .nil)))))))))) l, .int .i64 i, .int .i64 t] (.tup [.own (.cons (.int .i64) (.cons (.int .i64) (.cons (.int .i64) (.cons (.sl (.int .i64)) (.cons (.int .i64) (.cons (.int .i64) (.cons (.int .i64) (.cons (.int .i64) (.cons (.int .i64) (.cons (.int .i64) .nil)))))))))) 0, .int .i64 (endE l i t)]) [.row false (.cons (.int .i64) (.cons (.int .i64) (.cons (.int .i64) (.cons (.sl (.int .i64)) (.cons (.int .i64) (.cons (.int .i64) (.cons (.int .i64) (.cons (.int .i64) (.cons (.int .i64) (.cons (.int .i64) .nil)))))))))) (endL l i t)] := by
 refine ⟨⟨by show l.length ≤ 1048576; first | omega | assumption, by first | assumption | simp⟩, fun h0 => ?_, fun h0 => ?_⟩
 ·replace h0 : (chkL l) ≠ 0 := h0
  have e1 : endE l i t = chkL l := if_pos h0
  have e2 := end_err (show endE l i t ≠ 0 by rw [e1]; exact h0)
  rw [e1, e2]
  exact ⟨rfl, rfl, rfl, rfl⟩
 ·replace h0 : ¬ ((chkL l) ≠ 0) := h0
  have hc := Classical.not_not.1 h0
  have hl4 := (chk_ok hc).1
  refine ⟨rfl, by show l.length ≤ 1048576; first | omega | assumption, fun h1 => ?_, fun h1 => ?_⟩
  ·replace h1 : (findL l i) < 0 := h1
   have e1 : endE l i t = 8 := by unfold endE; rw [if_neg h0, if_pos h1]
   have e2 := end_err (show endE l i t ≠ 0 by rw [e1]; decide)
   rw [e1, e2]
   exact ⟨rfl, rfl, rfl, rfl⟩
  ·replace h1 : ¬ ((findL l i) < 0) := h1
   have hfl := findL_lt l i (by omega)
   refine ⟨⟨by show (0 : Int) ≤ findL l i; omega, by show findL l i < (l.length : Int); omega⟩, fun h2 => ?_, fun h2 => ?_⟩
   ·replace h2 : (l.getD ((findL l i).toNat) d0).2.2.2.2.2.2.2.1 ≠ 1000001 := h2
    have e1 : endE l i t = 4 := by unfold endE; rw [if_neg h0, if_neg h1, if_pos h2]
    have e2 := end_err (show endE l i t ≠ 0 by rw [e1]; decide)
    rw [e1, e2]
    exact ⟨rfl, rfl, rfl, rfl⟩
   ·replace h2 : ¬ ((l.getD ((findL l i).toNat) d0).2.2.2.2.2.2.2.1 ≠ 1000001) := h2
    refine ⟨by kernel_rfl, ⟨by show (0 : Int) ≤ findL l i; omega, by show findL l i < (l.length : Int); omega⟩, rfl, rfl, rfl, trivial, fun h3 => ?_, fun h3 => ?_⟩
    ·replace h3 : ¬ (¬ ((l.getD ((findL l i).toNat) d0).2.2.2.2.2.2.1 ≤ t ∧ t ≤ 1000000)) := h3
     refine ⟨fun h4 => ?_, fun h4 => absurd h4 (show ¬ (¬ ((l.getD ((findL l i).toNat) d0).2.2.2.2.2.2.1 ≤ t ∧ t ≤ 1000000)) by first | omega | assumption | simp_all)⟩
     refine ⟨fun h5 => ?_, fun h5 => absurd h5 (show ¬ (¬ ((l.getD ((findL l i).toNat) d0).2.2.2.2.2.2.1 ≤ t ∧ t ≤ 1000000)) by first | omega | assumption | simp_all)⟩
     refine ⟨rfl, rfl, ⟨by show l.length ≤ 1048576; first | omega | assumption, by first | assumption | simp⟩, fun h6 => absurd h6 (show ¬ (¬ ((l.getD ((findL l i).toNat) d0).2.2.2.2.2.2.1 ≤ t ∧ t ≤ 1000000)) by first | omega | assumption | simp_all), fun h6 => ?_⟩
     refine ⟨fun h7 => ?_, fun h7 => ?_⟩
     ·replace h7 : ∃ a ∈ l, (t ≤ a.2.2.2.2.2.2.1 ∧ i ∈ a.2.2.2.1) := h7
      have e1 : endE l i t = 1 := by unfold endE; rw [if_neg h0, if_neg h1, if_neg h2, if_pos (by first | exact .inl (by assumption) | exact .inr (by assumption))]
      have e2 := end_err (show endE l i t ≠ 0 by rw [e1]; decide)
      rw [e1, e2]
      exact ⟨rfl, rfl, rfl, rfl⟩
     ·replace h7 : ¬ (∃ a ∈ l, (t ≤ a.2.2.2.2.2.2.1 ∧ i ∈ a.2.2.2.1)) := h7
      refine ⟨by show l.length ≤ 1048576; first | omega | assumption, ⟨by show (0 : Int) ≤ findL l i; omega, by show findL l i < (l.length : Int); omega⟩, rfl, ⟨rfl, rfl⟩, ?_⟩
      have e1 : endE l i t = 0 := by unfold endE; rw [if_neg h0, if_neg h1, if_neg h2, if_neg (by rintro (g | g) <;> exact absurd g (by assumption))]
      have e2 := end_yes e1
      rw [e1, e2]
      exact ⟨rfl, rfl, rfl, rfl⟩
    ·replace h3 : ¬ ((l.getD ((findL l i).toNat) d0).2.2.2.2.2.2.1 ≤ t ∧ t ≤ 1000000) := h3
     refine ⟨fun h8 => absurd (show ¬ ((l.getD ((findL l i).toNat) d0).2.2.2.2.2.2.1 ≤ t ∧ t ≤ 1000000) by first | omega | assumption | simp_all) h8, fun h8 => ?_⟩
     refine ⟨fun h9 => absurd (show ¬ ((l.getD ((findL l i).toNat) d0).2.2.2.2.2.2.1 ≤ t ∧ t ≤ 1000000) by first | omega | assumption | simp_all) h9, fun h9 => ?_⟩
     refine ⟨fun h10 => ?_, fun h10 => absurd (show ¬ ((l.getD ((findL l i).toNat) d0).2.2.2.2.2.2.1 ≤ t ∧ t ≤ 1000000) by first | omega | assumption | simp_all) h10⟩
     have e1 : endE l i t = 1 := by unfold endE; rw [if_neg h0, if_neg h1, if_neg h2, if_pos (by first | exact .inl (by assumption) | exact .inr (by assumption))]
     have e2 := end_err (show endE l i t ≠ 0 by rw [e1]; decide)
     rw [e1, e2]
     exact ⟨rfl, rfl, rfl, rfl⟩
def CEnd : List (Nat × Con) := (48, immC [.v (.sl (.cons (.int .i64) (.cons (.int .i64) (.cons (.int .i64) (.cons (.sl (.int .i64)) (.cons (.int .i64) (.cons (.int .i64) (.cons (.int .i64) (.cons (.int .i64) (.cons (.int .i64) (.cons (.int .i64) .nil))))))))))), .v (.int .i64), .v (.int .i64)] sEnd) :: CCfB
theorem kEnd : Known Try.prog (En CEnd tys [] QOfs) := kCfB.addI Try.func48 Try.call48 [.w (.cons (.int .i64) (.cons (.int .i64) (.cons (.int .i64) (.cons (.sl (.int .i64)) (.cons (.int .i64) (.cons (.int .i64) (.cons (.int .i64) (.cons (.int .i64) (.cons (.int .i64) (.cons (.int .i64) .nil)))))))))), .k] fun ds p v bs h hp => by
  unfold sEnd at h
  split at h <;> simp only [Option.some.injEq, Prod.mk.injEq, reduceCtorEq] at h
  obtain ⟨rfl, rfl, rfl⟩ := h
  exact bEnd _ _ _ hp.1 hp.2
noncomputable def sAdd : List V → Option (Prop × V × List Blk)
  | [.sl false (.cons (.int .i64) (.cons (.int .i64) (.cons (.int .i64) (.cons (.sl (.int .i64)) (.cons (.int .i64) (.cons (.int .i64) (.cons (.int .i64) (.cons (.int .i64) (.cons (.int .i64) (.cons (.int .i64) .nil)))))))))) l, .agg [.int .i64 id, .int .i64 kd, .int .i64 ob, .sl false (.int .i64) of, .int .i64 ho, .int .i64 di, .int .i64 bo, .int .i64 go, .int .i64 hr, .int .i64 pe]] => some (l.length ≤ 1048576 ∧ (∀ a ∈ l, a.2.2.2.1.length ≤ 1048576) ∧ of.length ≤ 1048576, .tup [.own (.cons (.int .i64) (.cons (.int .i64) (.cons (.int .i64) (.cons (.sl (.int .i64)) (.cons (.int .i64) (.cons (.int .i64) (.cons (.int .i64) (.cons (.int .i64) (.cons (.int .i64) (.cons (.int .i64) .nil)))))))))) 0, .int .i64 (addE l (id, (kd, (ob, (of, (ho, (di, (bo, (go, (hr, (pe, ())))))))))))], [.row false (.cons (.int .i64) (.cons (.int .i64) (.cons (.int .i64) (.cons (.sl (.int .i64)) (.cons (.int .i64) (.cons (.int .i64) (.cons (.int .i64) (.cons (.int .i64) (.cons (.int .i64) (.cons (.int .i64) .nil)))))))))) (addL l (id, (kd, (ob, (of, (ho, (di, (bo, (go, (hr, (pe, ())))))))))))])
  | _ => none
set_option maxHeartbeats 1000000 in
theorem bAdd (l : List (Int × (Int × (Int × (List Int × (Int × (Int × (Int × (Int × (Int × (Int × Unit))))))))))) (id : Int) (kd : Int) (ob : Int) (of : List Int) (ho : Int) (di : Int) (bo : Int) (go : Int) (hr : Int) (pe : Int) (hp0 : l.length ≤ 1048576) (hp1 : (∀ a ∈ l, a.2.2.2.1.length ≤ 1048576)) (hp2 : of.length ≤ 1048576) : bodyI (En CEnd tys [] QOfs) Try.f46 [.w (.cons (.int .i64) (.cons (.int .i64) (.cons (.int .i64) (.cons (.sl (.int .i64)) (.cons (.int .i64) (.cons (.int .i64) (.cons (.int .i64) (.cons (.int .i64) (.cons (.int .i64) (.cons (.int .i64) .nil)))))))))), .k] [.sl false (.cons (.int .i64) (.cons (.int .i64) (.cons (.int .i64) (.cons (.sl (.int .i64)) (.cons (.int .i64) (.cons (.int .i64) (.cons (.int .i64) (.cons (.int .i64) (.cons (.int .i64) (.cons (.int .i64) .nil)))))))))) l, .agg [.int .i64 id, .int .i64 kd, .int .i64 ob, .sl false (.int .i64) of, .int .i64 ho, .int .i64 di, .int .i64 bo, .int .i64 go, .int .i64 hr, .int .i64 pe]] (.tup [.own (.cons (.int .i64) (.cons (.int .i64) (.cons (.int .i64) (.cons (.sl (.int .i64)) (.cons (.int .i64) (.cons (.int .i64) (.cons (.int .i64) (.cons (.int .i64) (.cons (.int .i64) (.cons (.int .i64) .nil)))))))))) 0, .int .i64 (addE l (id, (kd, (ob, (of, (ho, (di, (bo, (go, (hr, (pe, ())))))))))))]) [.row false (.cons (.int .i64) (.cons (.int .i64) (.cons (.int .i64) (.cons (.sl (.int .i64)) (.cons (.int .i64) (.cons (.int .i64) (.cons (.int .i64) (.cons (.int .i64) (.cons (.int .i64) (.cons (.int .i64) .nil)))))))))) (addL l (id, (kd, (ob, (of, (ho, (di, (bo, (go, (hr, (pe, ())))))))))))] := by
 refine ⟨⟨by show l.length ≤ 1048576; first | omega | assumption, by first | assumption | simp⟩, fun h0 => ?_, fun h0 => ?_⟩
 ·replace h0 : (chkL l) ≠ 0 := h0
  have e1 : addE l (id, (kd, (ob, (of, (ho, (di, (bo, (go, (hr, (pe, ())))))))))) = chkL l := if_pos h0
  have e2 := add_err (show addE l (id, (kd, (ob, (of, (ho, (di, (bo, (go, (hr, (pe, ())))))))))) ≠ 0 by rw [e1]; exact h0)
  rw [e1, e2]
  exact ⟨rfl, rfl, rfl, rfl⟩
 ·replace h0 : ¬ ((chkL l) ≠ 0) := h0
  have hc := Classical.not_not.1 h0
  have hl4 := (chk_ok hc).1
  refine ⟨by show of.length ≤ 1048576; first | omega | assumption, ⟨rfl, rfl, rfl⟩, by kernel_rfl, by show l.length ≤ 1048576; first | omega | assumption, rfl, rfl, rfl, rfl, rfl, rfl, rfl, rfl, rfl, ⟨rfl, rfl⟩, by show l.length + ([(id, kd, ob, of, ho, di, bo, go, hr, pe, ())] : List (Int × (Int × (Int × (List Int × (Int × (Int × (Int × (Int × (Int × (Int × Unit))))))))))).length ≤ 1000000000; simp only [List.length_cons, List.length_nil]; omega, ⟨by show (l ++ ([(id, kd, ob, of, ho, di, bo, go, hr, pe, ())] : List (Int × (Int × (Int × (List Int × (Int × (Int × (Int × (Int × (Int × (Int × Unit)))))))))))).length ≤ 1048576; first | omega | assumption | (simp only [List.length_cons, List.length_nil, List.length_append, List.length_take, List.length_drop, List.length_set, List.length_replicate]; omega), by intro a ha; rcases List.mem_append.1 ha with g | g; exact hp1 a g; rw [List.mem_singleton.1 g]; exact hp2⟩, fun h1 => ?_, fun h1 => ?_⟩
  ·replace h1 : (chkL (l ++ ([(id, kd, ob, of, ho, di, bo, go, hr, pe, ())] : List (Int × (Int × (Int × (List Int × (Int × (Int × (Int × (Int × (Int × (Int × Unit))))))))))))) ≠ 0 := h1
   have e1 : addE l (id, (kd, (ob, (of, (ho, (di, (bo, (go, (hr, (pe, ())))))))))) = chkL (l ++ [(id, (kd, (ob, (of, (ho, (di, (bo, (go, (hr, (pe, ()))))))))))]) := if_neg h0
   have e2 := add_err (show addE l (id, (kd, (ob, (of, (ho, (di, (bo, (go, (hr, (pe, ())))))))))) ≠ 0 by rw [e1]; exact h1)
   rw [e1, e2]
   exact ⟨rfl, rfl, rfl, rfl⟩
  ·replace h1 : ¬ ((chkL (l ++ ([(id, kd, ob, of, ho, di, bo, go, hr, pe, ())] : List (Int × (Int × (Int × (List Int × (Int × (Int × (Int × (Int × (Int × (Int × Unit))))))))))))) ≠ 0) := h1
   have e1 : addE l (id, (kd, (ob, (of, (ho, (di, (bo, (go, (hr, (pe, ())))))))))) = 0 := (if_neg h0).trans (Classical.not_not.1 h1)
   have e2 := add_yes e1
   rw [e1, e2]
   exact ⟨rfl, rfl, rfl, rfl⟩
def CAdd : List (Nat × Con) := (46, immC [.v (.sl (.cons (.int .i64) (.cons (.int .i64) (.cons (.int .i64) (.cons (.sl (.int .i64)) (.cons (.int .i64) (.cons (.int .i64) (.cons (.int .i64) (.cons (.int .i64) (.cons (.int .i64) (.cons (.int .i64) .nil))))))))))), .v (.cons (.int .i64) (.cons (.int .i64) (.cons (.int .i64) (.cons (.sl (.int .i64)) (.cons (.int .i64) (.cons (.int .i64) (.cons (.int .i64) (.cons (.int .i64) (.cons (.int .i64) (.cons (.int .i64) .nil))))))))))] sAdd) :: CEnd
theorem kAdd : Known Try.prog (En CAdd tys [] QOfs) := kEnd.addI Try.func46 Try.call46 [.w (.cons (.int .i64) (.cons (.int .i64) (.cons (.int .i64) (.cons (.sl (.int .i64)) (.cons (.int .i64) (.cons (.int .i64) (.cons (.int .i64) (.cons (.int .i64) (.cons (.int .i64) (.cons (.int .i64) .nil)))))))))), .k] fun ds p v bs h hp => by
  unfold sAdd at h
  split at h <;> simp only [Option.some.injEq, Prod.mk.injEq, reduceCtorEq] at h
  obtain ⟨rfl, rfl, rfl⟩ := h
  exact bAdd _ _ _ _ _ _ _ _ _ _ _ hp.1 hp.2.1 hp.2.2
end Go.Proofs.Ytgljcfnplkcfhaa.S38

namespace Go.Proofs.Ytgljcfnplkcfhaa.S38
open Go

instance dA1 : DecidableEq (Int × (Int × (Int × (Int × (Int × (Int × Unit)))))) := fun a b => if h : a.1 = b.1 ∧ a.2.1 = b.2.1 ∧ a.2.2.1 = b.2.2.1 ∧ a.2.2.2.1 = b.2.2.2.1 ∧ a.2.2.2.2.1 = b.2.2.2.2.1 ∧ a.2.2.2.2.2.1 = b.2.2.2.2.2.1 then isTrue (by obtain ⟨a1, a2, a3, a4, a5, a6, a7⟩ := a; obtain ⟨b1, b2, b3, b4, b5, b6, b7⟩ := b; simp only at h; obtain ⟨rfl, rfl, rfl, rfl, rfl, rfl⟩ := h; rfl) else isFalse (fun e => h (by subst e; simp))
instance dA2 : DecidableEq (Int × (Int × (Int × (List Int × (Int × (Int × (Int × (Int × (Int × (Int × Unit)))))))))) := fun a b => if h : a.1 = b.1 ∧ a.2.1 = b.2.1 ∧ a.2.2.1 = b.2.2.1 ∧ a.2.2.2.1 = b.2.2.2.1 ∧ a.2.2.2.2 = b.2.2.2.2 then isTrue (by obtain ⟨a1, a2, a3, a4, a5⟩ := a; obtain ⟨b1, b2, b3, b4, b5⟩ := b; simp only at h; obtain ⟨rfl, rfl, rfl, rfl, rfl⟩ := h; rfl) else isFalse (fun e => h (by subst e; simp))
theorem art_ext {a b : (Int × (Int × (Int × (List Int × (Int × (Int × (Int × (Int × (Int × (Int × Unit))))))))))} (h4 : a.2.2.2.1 = b.2.2.2.1) (h1 : a.1 = b.1) (h2 : a.2.1 = b.2.1) (h3 : a.2.2.1 = b.2.2.1) (h5 : a.2.2.2.2.1 = b.2.2.2.2.1) (h6 : a.2.2.2.2.2.1 = b.2.2.2.2.2.1) (h7 : a.2.2.2.2.2.2.1 = b.2.2.2.2.2.2.1) (h8 : a.2.2.2.2.2.2.2.1 = b.2.2.2.2.2.2.2.1)
    (h9 : a.2.2.2.2.2.2.2.2.1 = b.2.2.2.2.2.2.2.2.1) (h10 : a.2.2.2.2.2.2.2.2.2.1 = b.2.2.2.2.2.2.2.2.2.1) : a = b := by
  obtain ⟨a1, a2, a3, a4, a5, a6, a7, a8, a9, a10, ⟨⟩⟩ := a
  obtain ⟨b1, b2, b3, b4, b5, b6, b7, b8, b9, b10, ⟨⟩⟩ := b
  simp only at *
  subst h1 h2 h3 h4 h5 h6 h7 h8 h9 h10
  rfl
theorem list_eq {α : Type} (d : α) {a b : List α} (hl : a.length = b.length) (h : ∀ i, i < a.length → a.getD i d = b.getD i d) : a = b := by
  apply List.ext_getElem hl
  intro i h1 h2
  have := h i h1
  rw [List.getD_eq_getElem?_getD, List.getD_eq_getElem?_getD, List.getElem?_eq_getElem h1, List.getElem?_eq_getElem h2] at this
  exact this
theorem take_get {α : Type} (d : α) {l : List α} {n k : Nat} (hk : k < n) : (l.take n).getD k d = l.getD k d := by
  rw [List.getD_eq_getElem?_getD, List.getD_eq_getElem?_getD, List.getElem?_take, if_pos hk]
theorem mem_next {x : Int} {l : List Int} {k : Nat} (hk : k < l.length) (h : x ∉ l.take k) (hy : ¬ l.getD k 0 = x) : x ∉ l.take (k + 1) := fun g => by
  rw [take_snoc 0 l k hk] at g
  rcases List.mem_append.1 g with g | g
  · exact h g
  · exact hy (List.mem_singleton.1 g).symm
theorem all_next {l : List Int} {p : Int → Prop} {k : Nat} (hk : k < l.length) (h : ∀ i ∈ l.take k, p i) (hy : p (l.getD k 0)) : ∀ i ∈ l.take (k + 1), p i := fun i hi => by
  rw [take_snoc 0 l k hk] at hi
  rcases List.mem_append.1 hi with g | g
  · exact h i g
  · rw [List.mem_singleton.1 g]; exact hy
theorem all_nextG {α : Type} {d : α} {l : List α} {p : α → Prop} {k : Nat} (hk : k < l.length) (h : ∀ i ∈ l.take k, p i) (hy : p (l.getD k d)) : ∀ i ∈ l.take (k + 1), p i := fun i hi => by
  rw [take_snoc d l k hk] at hi
  rcases List.mem_append.1 hi with g | g
  · exact h i g
  · rw [List.mem_singleton.1 g]; exact hy
/-- What is asked of a list of a law. -/
def fewA (l : List (Int × (Int × (Int × (List Int × (Int × (Int × (Int × (Int × (Int × (Int × Unit))))))))))) (n : Int) : Prop := ¬ ((n < l.length ∧ l.length ≤ 400) ∨ 410 < l.length) ∧ ∀ a ∈ l, a.2.2.2.1.length ≤ 20
instance {l n} : Decidable (fewA l n) := by unfold fewA; infer_instance
/-- The ledger of the chapter. -/
def exL : List (Int × (Int × (Int × (List Int × (Int × (Int × (Int × (Int × (Int × (Int × Unit)))))))))) := [(1, (1, (7, ([], (0, (-1, (10, (12, (-1, (0, ())))))))))), (2, (2, (7, ([1], (1, (0, (11, (1000001, (-1, (0, ())))))))))), (3, (2, (7, ([2], (2, (0, (20, (30, (-1, (0, ())))))))))),
  (4, (3, (7, ([], (0, (0, (10, (1000001, (0, (0, ())))))))))), (5, (3, (7, ([], (1, (0, (10, (25, (1, (0, ())))))))))), (6, (4, (7, ([2], (3, (0, (11, (1000001, (-1, (0, ()))))))))))]
end Go.Proofs.Ytgljcfnplkcfhaa.S38

namespace Go.Proofs.Ytgljcfnplkcfhaa.S38
open Go Go.Proofs.Ytgljcfnplkcfhaa.Vc Go.Proofs
set_option maxRecDepth 100000
set_option linter.unusedVariables false

noncomputable def sRSL : List V → Option (Prop × V × List Blk)
  | [.sl false (.int .i64) s, .sl false (.int .i64) t] => some (s.length ≤ 1048576 ∧ t.length ≤ 1048576, .b (s = t), [])
  | _ => none
set_option maxHeartbeats 4000000 in
theorem bRSL (s : List Int) (t : List Int) (hp0 : s.length ≤ 1048576) (hp1 : t.length ≤ 1048576) : bodyP (En CAdd tys [] QOfs) Try.f59 [.k] [.sl false (.int .i64) s, .sl false (.int .i64) t] (.b (s = t)) [] := by
 refine ⟨fun h0 => ?_, fun h0 => ?_⟩
 ·replace h0 : (s.length : Int) ≠ (t.length : Int) := h0
  first
  | exact ⟨rfl, rfl, congrArg V.b (propext ⟨fun h => Bool.noConfusion h, fun e => by subst e; exfalso; first | omega | exact absurd rfl (by assumption)⟩), rfl⟩
  | exact ⟨rfl, rfl, congrArg V.b (propext ⟨fun _ => list_eq 0 (by omega) (fun i hi => hal i (by omega)), fun _ => rfl⟩), rfl⟩
 ·replace h0 : ¬ ((s.length : Int) ≠ (t.length : Int)) := h0
  refine ⟨0, [(0, .k), (1, .k), (5, .k)], fun nM vs H => ∃ (k : Nat), k ≤ s.length ∧ s.length = t.length ∧ (∀ i, i < k → s.getD i 0 = t.getD i 0) ∧ nM = s.length - k ∧ vs = [.sl false (.int .i64) s, .sl false (.int .i64) t, .int .i64 (k : Int)] ∧ H = [], ⟨rfl, s.length, 0, by omega, by omega, by intro i hi; omega, by omega, rfl, rfl⟩, ?_⟩
  rintro nM vs H ⟨k, hc1_0, hc1_1, hc1_2, rfl, rfl, rfl⟩
  have hal : ∀ i, i < k → s.getD i 0 = t.getD i 0 := by assumption
  refine ⟨fun h1 => ?_, fun h1 => ?_⟩
  ·replace h1 : (k : Int) < (s.length : Int) := h1
   refine ⟨by kernel_rfl, ⟨by show (0 : Int) ≤ (k : Int); omega, by show (k : Int) < (s.length : Int); omega⟩, ⟨by show (0 : Int) ≤ (k : Int); omega, by show (k : Int) < (t.length : Int); omega⟩, fun h2 => ?_, fun h2 => ?_⟩
   ·replace h2 : (s.getD k 0) ≠ (t.getD k 0) := h2
    first
    | exact ⟨rfl, rfl, congrArg V.b (propext ⟨fun h => Bool.noConfusion h, fun e => by subst e; exfalso; first | omega | exact absurd rfl (by assumption)⟩), rfl⟩
    | exact ⟨rfl, rfl, congrArg V.b (propext ⟨fun _ => list_eq 0 (by omega) (fun i hi => hal i (by omega)), fun _ => rfl⟩), rfl⟩
   ·replace h2 : ¬ ((s.getD k 0) ≠ (t.getD k 0)) := h2
    refine ⟨⟨by show (-9223372036854775808 : Int) ≤ ((k : Int) + 1); omega, by show ((k : Int) + 1) ≤ (9223372036854775807 : Int); omega⟩, ?_⟩
    exact ⟨rfl, s.length - (k + 1), by omega, k + 1, by omega, by omega, fun i hi => if h : i < k then hal i h else by (obtain rfl : i = k := by omega); exact Classical.not_not.1 h2, rfl, rfl, rfl⟩
  ·replace h1 : ¬ ((k : Int) < (s.length : Int)) := h1
   first
   | exact ⟨rfl, rfl, congrArg V.b (propext ⟨fun h => Bool.noConfusion h, fun e => by subst e; exfalso; first | omega | exact absurd rfl (by assumption)⟩), rfl⟩
   | exact ⟨rfl, rfl, congrArg V.b (propext ⟨fun _ => list_eq 0 (by omega) (fun i hi => hal i (by omega)), fun _ => rfl⟩), rfl⟩
def CRSL : List (Nat × Con) := (59, pureC [.v (.sl (.int .i64)), .v (.sl (.int .i64))] sRSL) :: CAdd
theorem kRSL : Known Try.prog (En CRSL tys [] QOfs) := kAdd.add Try.func59 Try.call59 [.k] fun ds p v bs h hp => by
  unfold sRSL at h
  split at h <;> simp only [Option.some.injEq, Prod.mk.injEq, reduceCtorEq] at h
  obtain ⟨rfl, rfl, rfl⟩ := h
  exact bRSL _ _ hp.1 hp.2
noncomputable def sRSm : List V → Option (Prop × V × List Blk)
  | [.sl false (.cons (.int .i64) (.cons (.int .i64) (.cons (.int .i64) (.cons (.sl (.int .i64)) (.cons (.int .i64) (.cons (.int .i64) (.cons (.int .i64) (.cons (.int .i64) (.cons (.int .i64) (.cons (.int .i64) .nil)))))))))) s, .sl false (.cons (.int .i64) (.cons (.int .i64) (.cons (.int .i64) (.cons (.sl (.int .i64)) (.cons (.int .i64) (.cons (.int .i64) (.cons (.int .i64) (.cons (.int .i64) (.cons (.int .i64) (.cons (.int .i64) .nil)))))))))) t] => some (s.length ≤ 1048576 ∧ t.length ≤ 1048576 ∧ (∀ a ∈ s, a.2.2.2.1.length ≤ 1048576) ∧ (∀ a ∈ t, a.2.2.2.1.length ≤ 1048576), .b (s = t), [])
  | _ => none
set_option maxHeartbeats 4000000 in
theorem bRSm (s : List (Int × (Int × (Int × (List Int × (Int × (Int × (Int × (Int × (Int × (Int × Unit))))))))))) (t : List (Int × (Int × (Int × (List Int × (Int × (Int × (Int × (Int × (Int × (Int × Unit))))))))))) (hp0 : s.length ≤ 1048576) (hp1 : t.length ≤ 1048576) (hp2 : (∀ a ∈ s, a.2.2.2.1.length ≤ 1048576)) (hp3 : (∀ a ∈ t, a.2.2.2.1.length ≤ 1048576)) : bodyP (En CRSL tys [] QOfs) Try.f58 [.k] [.sl false (.cons (.int .i64) (.cons (.int .i64) (.cons (.int .i64) (.cons (.sl (.int .i64)) (.cons (.int .i64) (.cons (.int .i64) (.cons (.int .i64) (.cons (.int .i64) (.cons (.int .i64) (.cons (.int .i64) .nil)))))))))) s, .sl false (.cons (.int .i64) (.cons (.int .i64) (.cons (.int .i64) (.cons (.sl (.int .i64)) (.cons (.int .i64) (.cons (.int .i64) (.cons (.int .i64) (.cons (.int .i64) (.cons (.int .i64) (.cons (.int .i64) .nil)))))))))) t] (.b (s = t)) [] := by
 refine ⟨fun h0 => ?_, fun h0 => ?_⟩
 ·replace h0 : (s.length : Int) ≠ (t.length : Int) := h0
  first
  | exact ⟨rfl, rfl, congrArg V.b (propext ⟨fun h => Bool.noConfusion h, fun e => by subst e; exfalso; first | omega | exact absurd rfl (by assumption)⟩), rfl⟩
  | exact ⟨rfl, rfl, congrArg V.b (propext ⟨fun _ => list_eq d0 (by omega) (fun i hi => hal i (by omega)), fun _ => rfl⟩), rfl⟩
 ·replace h0 : ¬ ((s.length : Int) ≠ (t.length : Int)) := h0
  refine ⟨0, [(0, .k), (1, .k), (5, .k)], fun nM vs H => ∃ (k : Nat), k ≤ s.length ∧ s.length = t.length ∧ (∀ i, i < k → s.getD i d0 = t.getD i d0) ∧ nM = s.length - k ∧ vs = [.sl false (.cons (.int .i64) (.cons (.int .i64) (.cons (.int .i64) (.cons (.sl (.int .i64)) (.cons (.int .i64) (.cons (.int .i64) (.cons (.int .i64) (.cons (.int .i64) (.cons (.int .i64) (.cons (.int .i64) .nil)))))))))) s, .sl false (.cons (.int .i64) (.cons (.int .i64) (.cons (.int .i64) (.cons (.sl (.int .i64)) (.cons (.int .i64) (.cons (.int .i64) (.cons (.int .i64) (.cons (.int .i64) (.cons (.int .i64) (.cons (.int .i64) .nil)))))))))) t, .int .i64 (k : Int)] ∧ H = [], ⟨rfl, s.length, 0, by omega, by omega, by intro i hi; omega, by omega, rfl, rfl⟩, ?_⟩
  rintro nM vs H ⟨k, hc1_0, hc1_1, hc1_2, rfl, rfl, rfl⟩
  have hal : ∀ i, i < k → s.getD i d0 = t.getD i d0 := by assumption
  refine ⟨fun h1 => ?_, fun h1 => ?_⟩
  ·replace h1 : (k : Int) < (s.length : Int) := h1
   have hst1 := hp2 _ (getD_mem d0 s k (by omega))
   have hst2 := hp3 _ (getD_mem d0 t k (by omega))
   refine ⟨⟨by show (0 : Int) ≤ (k : Int); omega, by show (k : Int) < (s.length : Int); omega⟩, ⟨rfl, rfl, rfl, Nat.le_of_ble_eq_true rfl⟩, ⟨by show (0 : Int) ≤ (k : Int); omega, by show (k : Int) < (t.length : Int); omega⟩, ⟨rfl, rfl, rfl, Nat.le_of_ble_eq_true rfl⟩, ⟨by show (s.getD k d0).2.2.2.1.length ≤ 1048576; first | omega | assumption, by show (t.getD k d0).2.2.2.1.length ≤ 1048576; first | omega | assumption⟩, fun h2 => ?_, fun h2 => ?_⟩
   ·replace h2 : ¬ (¬ ((s.getD k d0).2.2.2.1 = (t.getD k d0).2.2.2.1)) := h2
    refine ⟨fun h3 => ?_, fun h3 => ?_⟩
    ·replace h3 : ¬ ((s.getD k d0).1 ≠ (t.getD k d0).1) := h3
     refine ⟨fun h4 => ?_, fun h4 => ?_⟩
     ·replace h4 : ¬ ((s.getD k d0).2.1 ≠ (t.getD k d0).2.1) := h4
      refine ⟨fun h5 => ?_, fun h5 => ?_⟩
      ·replace h5 : ¬ ((s.getD k d0).2.2.1 ≠ (t.getD k d0).2.2.1) := h5
       refine ⟨fun h6 => ?_, fun h6 => ?_⟩
       ·replace h6 : ¬ ((s.getD k d0).2.2.2.2.1 ≠ (t.getD k d0).2.2.2.2.1) := h6
        refine ⟨fun h7 => ?_, fun h7 => ?_⟩
        ·replace h7 : ¬ ((s.getD k d0).2.2.2.2.2.1 ≠ (t.getD k d0).2.2.2.2.2.1) := h7
         refine ⟨fun h8 => ?_, fun h8 => ?_⟩
         ·replace h8 : ¬ ((s.getD k d0).2.2.2.2.2.2.1 ≠ (t.getD k d0).2.2.2.2.2.2.1) := h8
          refine ⟨fun h9 => ?_, fun h9 => ?_⟩
          ·replace h9 : ¬ ((s.getD k d0).2.2.2.2.2.2.2.1 ≠ (t.getD k d0).2.2.2.2.2.2.2.1) := h9
           refine ⟨fun h10 => ?_, fun h10 => ?_⟩
           ·replace h10 : ¬ ((s.getD k d0).2.2.2.2.2.2.2.2.1 ≠ (t.getD k d0).2.2.2.2.2.2.2.2.1) := h10
            refine ⟨fun h11 => ?_, fun h11 => ?_⟩
            ·replace h11 : (s.getD k d0).2.2.2.2.2.2.2.2.2.1 ≠ (t.getD k d0).2.2.2.2.2.2.2.2.2.1 := h11
             first
             | exact ⟨rfl, rfl, congrArg V.b (propext ⟨fun h => Bool.noConfusion h, fun e => by subst e; exfalso; first | omega | exact absurd rfl (by assumption)⟩), rfl⟩
             | exact ⟨rfl, rfl, congrArg V.b (propext ⟨fun _ => list_eq d0 (by omega) (fun i hi => hal i (by omega)), fun _ => rfl⟩), rfl⟩
            ·replace h11 : ¬ ((s.getD k d0).2.2.2.2.2.2.2.2.2.1 ≠ (t.getD k d0).2.2.2.2.2.2.2.2.2.1) := h11
             refine ⟨⟨by show (-9223372036854775808 : Int) ≤ ((k : Int) + 1); omega, by show ((k : Int) + 1) ≤ (9223372036854775807 : Int); omega⟩, ?_⟩
             exact ⟨rfl, s.length - (k + 1), by omega, k + 1, by omega, by omega, fun i hi => if h : i < k then hal i h else by (obtain rfl : i = k := by omega); exact art_ext (Classical.not_not.1 (by assumption)) (by omega) (by omega) (by omega) (by omega) (by omega) (by omega) (by omega) (by omega) (by omega), rfl, rfl, rfl⟩
           ·replace h10 : (s.getD k d0).2.2.2.2.2.2.2.2.1 ≠ (t.getD k d0).2.2.2.2.2.2.2.2.1 := h10
            first
            | exact ⟨rfl, rfl, congrArg V.b (propext ⟨fun h => Bool.noConfusion h, fun e => by subst e; exfalso; first | omega | exact absurd rfl (by assumption)⟩), rfl⟩
            | exact ⟨rfl, rfl, congrArg V.b (propext ⟨fun _ => list_eq d0 (by omega) (fun i hi => hal i (by omega)), fun _ => rfl⟩), rfl⟩
          ·replace h9 : (s.getD k d0).2.2.2.2.2.2.2.1 ≠ (t.getD k d0).2.2.2.2.2.2.2.1 := h9
           first
           | exact ⟨rfl, rfl, congrArg V.b (propext ⟨fun h => Bool.noConfusion h, fun e => by subst e; exfalso; first | omega | exact absurd rfl (by assumption)⟩), rfl⟩
           | exact ⟨rfl, rfl, congrArg V.b (propext ⟨fun _ => list_eq d0 (by omega) (fun i hi => hal i (by omega)), fun _ => rfl⟩), rfl⟩
         ·replace h8 : (s.getD k d0).2.2.2.2.2.2.1 ≠ (t.getD k d0).2.2.2.2.2.2.1 := h8
          first
          | exact ⟨rfl, rfl, congrArg V.b (propext ⟨fun h => Bool.noConfusion h, fun e => by subst e; exfalso; first | omega | exact absurd rfl (by assumption)⟩), rfl⟩
          | exact ⟨rfl, rfl, congrArg V.b (propext ⟨fun _ => list_eq d0 (by omega) (fun i hi => hal i (by omega)), fun _ => rfl⟩), rfl⟩
        ·replace h7 : (s.getD k d0).2.2.2.2.2.1 ≠ (t.getD k d0).2.2.2.2.2.1 := h7
         first
         | exact ⟨rfl, rfl, congrArg V.b (propext ⟨fun h => Bool.noConfusion h, fun e => by subst e; exfalso; first | omega | exact absurd rfl (by assumption)⟩), rfl⟩
         | exact ⟨rfl, rfl, congrArg V.b (propext ⟨fun _ => list_eq d0 (by omega) (fun i hi => hal i (by omega)), fun _ => rfl⟩), rfl⟩
       ·replace h6 : (s.getD k d0).2.2.2.2.1 ≠ (t.getD k d0).2.2.2.2.1 := h6
        first
        | exact ⟨rfl, rfl, congrArg V.b (propext ⟨fun h => Bool.noConfusion h, fun e => by subst e; exfalso; first | omega | exact absurd rfl (by assumption)⟩), rfl⟩
        | exact ⟨rfl, rfl, congrArg V.b (propext ⟨fun _ => list_eq d0 (by omega) (fun i hi => hal i (by omega)), fun _ => rfl⟩), rfl⟩
      ·replace h5 : (s.getD k d0).2.2.1 ≠ (t.getD k d0).2.2.1 := h5
       first
       | exact ⟨rfl, rfl, congrArg V.b (propext ⟨fun h => Bool.noConfusion h, fun e => by subst e; exfalso; first | omega | exact absurd rfl (by assumption)⟩), rfl⟩
       | exact ⟨rfl, rfl, congrArg V.b (propext ⟨fun _ => list_eq d0 (by omega) (fun i hi => hal i (by omega)), fun _ => rfl⟩), rfl⟩
     ·replace h4 : (s.getD k d0).2.1 ≠ (t.getD k d0).2.1 := h4
      first
      | exact ⟨rfl, rfl, congrArg V.b (propext ⟨fun h => Bool.noConfusion h, fun e => by subst e; exfalso; first | omega | exact absurd rfl (by assumption)⟩), rfl⟩
      | exact ⟨rfl, rfl, congrArg V.b (propext ⟨fun _ => list_eq d0 (by omega) (fun i hi => hal i (by omega)), fun _ => rfl⟩), rfl⟩
    ·replace h3 : (s.getD k d0).1 ≠ (t.getD k d0).1 := h3
     first
     | exact ⟨rfl, rfl, congrArg V.b (propext ⟨fun h => Bool.noConfusion h, fun e => by subst e; exfalso; first | omega | exact absurd rfl (by assumption)⟩), rfl⟩
     | exact ⟨rfl, rfl, congrArg V.b (propext ⟨fun _ => list_eq d0 (by omega) (fun i hi => hal i (by omega)), fun _ => rfl⟩), rfl⟩
   ·replace h2 : ¬ ((s.getD k d0).2.2.2.1 = (t.getD k d0).2.2.2.1) := h2
    first
    | exact ⟨rfl, rfl, congrArg V.b (propext ⟨fun h => Bool.noConfusion h, fun e => by subst e; exfalso; first | omega | exact absurd rfl (by assumption)⟩), rfl⟩
    | exact ⟨rfl, rfl, congrArg V.b (propext ⟨fun _ => list_eq d0 (by omega) (fun i hi => hal i (by omega)), fun _ => rfl⟩), rfl⟩
  ·replace h1 : ¬ ((k : Int) < (s.length : Int)) := h1
   first
   | exact ⟨rfl, rfl, congrArg V.b (propext ⟨fun h => Bool.noConfusion h, fun e => by subst e; exfalso; first | omega | exact absurd rfl (by assumption)⟩), rfl⟩
   | exact ⟨rfl, rfl, congrArg V.b (propext ⟨fun _ => list_eq d0 (by omega) (fun i hi => hal i (by omega)), fun _ => rfl⟩), rfl⟩
def CRSm : List (Nat × Con) := (58, pureC [.v (.sl (.cons (.int .i64) (.cons (.int .i64) (.cons (.int .i64) (.cons (.sl (.int .i64)) (.cons (.int .i64) (.cons (.int .i64) (.cons (.int .i64) (.cons (.int .i64) (.cons (.int .i64) (.cons (.int .i64) .nil))))))))))), .v (.sl (.cons (.int .i64) (.cons (.int .i64) (.cons (.int .i64) (.cons (.sl (.int .i64)) (.cons (.int .i64) (.cons (.int .i64) (.cons (.int .i64) (.cons (.int .i64) (.cons (.int .i64) (.cons (.int .i64) .nil)))))))))))] sRSm) :: CRSL
theorem kRSm : Known Try.prog (En CRSm tys [] QOfs) := kRSL.add Try.func58 Try.call58 [.k] fun ds p v bs h hp => by
  unfold sRSm at h
  split at h <;> simp only [Option.some.injEq, Prod.mk.injEq, reduceCtorEq] at h
  obtain ⟨rfl, rfl, rfl⟩ := h
  exact bRSm _ _ hp.1 hp.2.1 hp.2.2.1 hp.2.2.2
noncomputable def sRFe : List V → Option (Prop × V × List Blk)
  | [.sl false (.cons (.int .i64) (.cons (.int .i64) (.cons (.int .i64) (.cons (.sl (.int .i64)) (.cons (.int .i64) (.cons (.int .i64) (.cons (.int .i64) (.cons (.int .i64) (.cons (.int .i64) (.cons (.int .i64) .nil)))))))))) l, .int .i64 n] => some (l.length ≤ 1048576, .b (fewA l n), [])
  | _ => none
set_option maxHeartbeats 1000000 in
theorem bRFe (l : List (Int × (Int × (Int × (List Int × (Int × (Int × (Int × (Int × (Int × (Int × Unit))))))))))) (n : Int) (hp0 : l.length ≤ 1048576) : bodyP (En CRSm tys [] QOfs) Try.f44 [.k] [.sl false (.cons (.int .i64) (.cons (.int .i64) (.cons (.int .i64) (.cons (.sl (.int .i64)) (.cons (.int .i64) (.cons (.int .i64) (.cons (.int .i64) (.cons (.int .i64) (.cons (.int .i64) (.cons (.int .i64) .nil)))))))))) l, .int .i64 n] (.b (fewA l n)) [] := by
 refine ⟨fun h0 => ?_, fun h0 => ?_⟩
 ·replace h0 : n < (l.length : Int) := h0
  refine ⟨fun h1 => ?_, fun h1 => ?_⟩
  ·replace h1 : ¬ ((l.length : Int) ≤ 400) := h1
   refine ⟨fun h2 => ?_, fun h2 => ?_⟩
   ·replace h2 : 410 < (l.length : Int) := h2
    first
    | exact ⟨rfl, rfl, congrArg V.b (propext ⟨fun h => Bool.noConfusion h, fun g => absurd g.1 (by omega)⟩), rfl⟩
    | exact ⟨rfl, rfl, congrArg V.b (propext ⟨fun h => Bool.noConfusion h, fun g => by have := g.2 _ (getD_mem d0 l k (by omega)); omega⟩), rfl⟩
    | exact ⟨rfl, rfl, congrArg V.b (propext ⟨fun _ => ⟨by omega, fun a ha => hal a (by rw [List.take_of_length_le (by omega)]; exact ha)⟩, fun _ => rfl⟩), rfl⟩
   ·replace h2 : ¬ (410 < (l.length : Int)) := h2
    refine ⟨0, [(0, .k), (5, .k)], fun nM vs H => ∃ (k : Nat), k ≤ l.length ∧ (∀ a ∈ l.take k, a.2.2.2.1.length ≤ 20) ∧ nM = l.length - k ∧ vs = [.sl false (.cons (.int .i64) (.cons (.int .i64) (.cons (.int .i64) (.cons (.sl (.int .i64)) (.cons (.int .i64) (.cons (.int .i64) (.cons (.int .i64) (.cons (.int .i64) (.cons (.int .i64) (.cons (.int .i64) .nil)))))))))) l, .int .i64 (k : Int)] ∧ H = [], ⟨rfl, l.length, 0, by omega, by simp, by omega, rfl, rfl⟩, ?_⟩
    rintro nM vs H ⟨k, hc1_0, hc1_1, rfl, rfl, rfl⟩
    have hal : ∀ a ∈ l.take k, a.2.2.2.1.length ≤ 20 := by assumption
    refine ⟨fun h3 => ?_, fun h3 => ?_⟩
    ·replace h3 : (k : Int) < (l.length : Int) := h3
     refine ⟨⟨by show (0 : Int) ≤ (k : Int); omega, by show (k : Int) < (l.length : Int); omega⟩, fun h4 => ?_, fun h4 => ?_⟩
     ·replace h4 : 20 < (((l.getD k d0).2.2.2.1.length : Nat) : Int) := h4
      first
      | exact ⟨rfl, rfl, congrArg V.b (propext ⟨fun h => Bool.noConfusion h, fun g => absurd g.1 (by omega)⟩), rfl⟩
      | exact ⟨rfl, rfl, congrArg V.b (propext ⟨fun h => Bool.noConfusion h, fun g => by have := g.2 _ (getD_mem d0 l k (by omega)); omega⟩), rfl⟩
      | exact ⟨rfl, rfl, congrArg V.b (propext ⟨fun _ => ⟨by omega, fun a ha => hal a (by rw [List.take_of_length_le (by omega)]; exact ha)⟩, fun _ => rfl⟩), rfl⟩
     ·replace h4 : ¬ (20 < (((l.getD k d0).2.2.2.1.length : Nat) : Int)) := h4
      refine ⟨⟨by show (-9223372036854775808 : Int) ≤ ((k : Int) + 1); omega, by show ((k : Int) + 1) ≤ (9223372036854775807 : Int); omega⟩, ?_⟩
      exact ⟨rfl, l.length - (k + 1), by omega, k + 1, by omega, all_nextG (d := d0) (p := fun a : (Int × (Int × (Int × (List Int × (Int × (Int × (Int × (Int × (Int × (Int × Unit)))))))))) => a.2.2.2.1.length ≤ 20) (by omega) hal (by omega), rfl, rfl, rfl⟩
    ·replace h3 : ¬ ((k : Int) < (l.length : Int)) := h3
     first
     | exact ⟨rfl, rfl, congrArg V.b (propext ⟨fun h => Bool.noConfusion h, fun g => absurd g.1 (by omega)⟩), rfl⟩
     | exact ⟨rfl, rfl, congrArg V.b (propext ⟨fun h => Bool.noConfusion h, fun g => by have := g.2 _ (getD_mem d0 l k (by omega)); omega⟩), rfl⟩
     | exact ⟨rfl, rfl, congrArg V.b (propext ⟨fun _ => ⟨by omega, fun a ha => hal a (by rw [List.take_of_length_le (by omega)]; exact ha)⟩, fun _ => rfl⟩), rfl⟩
  ·replace h1 : (l.length : Int) ≤ 400 := h1
   first
   | exact ⟨rfl, rfl, congrArg V.b (propext ⟨fun h => Bool.noConfusion h, fun g => absurd g.1 (by omega)⟩), rfl⟩
   | exact ⟨rfl, rfl, congrArg V.b (propext ⟨fun h => Bool.noConfusion h, fun g => by have := g.2 _ (getD_mem d0 l k (by omega)); omega⟩), rfl⟩
   | exact ⟨rfl, rfl, congrArg V.b (propext ⟨fun _ => ⟨by omega, fun a ha => hal a (by rw [List.take_of_length_le (by omega)]; exact ha)⟩, fun _ => rfl⟩), rfl⟩
 ·replace h0 : ¬ (n < (l.length : Int)) := h0
  refine ⟨fun h5 => ?_, fun h5 => ?_⟩
  ·replace h5 : 410 < (l.length : Int) := h5
   first
   | exact ⟨rfl, rfl, congrArg V.b (propext ⟨fun h => Bool.noConfusion h, fun g => absurd g.1 (by omega)⟩), rfl⟩
   | exact ⟨rfl, rfl, congrArg V.b (propext ⟨fun h => Bool.noConfusion h, fun g => by have := g.2 _ (getD_mem d0 l k (by omega)); omega⟩), rfl⟩
   | exact ⟨rfl, rfl, congrArg V.b (propext ⟨fun _ => ⟨by omega, fun a ha => hal a (by rw [List.take_of_length_le (by omega)]; exact ha)⟩, fun _ => rfl⟩), rfl⟩
  ·replace h5 : ¬ (410 < (l.length : Int)) := h5
   refine ⟨0, [(0, .k), (5, .k)], fun nM vs H => ∃ (k : Nat), k ≤ l.length ∧ (∀ a ∈ l.take k, a.2.2.2.1.length ≤ 20) ∧ nM = l.length - k ∧ vs = [.sl false (.cons (.int .i64) (.cons (.int .i64) (.cons (.int .i64) (.cons (.sl (.int .i64)) (.cons (.int .i64) (.cons (.int .i64) (.cons (.int .i64) (.cons (.int .i64) (.cons (.int .i64) (.cons (.int .i64) .nil)))))))))) l, .int .i64 (k : Int)] ∧ H = [], ⟨rfl, l.length, 0, by omega, by simp, by omega, rfl, rfl⟩, ?_⟩
   rintro nM vs H ⟨k, hc2_0, hc2_1, rfl, rfl, rfl⟩
   have hal : ∀ a ∈ l.take k, a.2.2.2.1.length ≤ 20 := by assumption
   refine ⟨fun h6 => ?_, fun h6 => ?_⟩
   ·replace h6 : (k : Int) < (l.length : Int) := h6
    refine ⟨⟨by show (0 : Int) ≤ (k : Int); omega, by show (k : Int) < (l.length : Int); omega⟩, fun h7 => ?_, fun h7 => ?_⟩
    ·replace h7 : 20 < (((l.getD k d0).2.2.2.1.length : Nat) : Int) := h7
     first
     | exact ⟨rfl, rfl, congrArg V.b (propext ⟨fun h => Bool.noConfusion h, fun g => absurd g.1 (by omega)⟩), rfl⟩
     | exact ⟨rfl, rfl, congrArg V.b (propext ⟨fun h => Bool.noConfusion h, fun g => by have := g.2 _ (getD_mem d0 l k (by omega)); omega⟩), rfl⟩
     | exact ⟨rfl, rfl, congrArg V.b (propext ⟨fun _ => ⟨by omega, fun a ha => hal a (by rw [List.take_of_length_le (by omega)]; exact ha)⟩, fun _ => rfl⟩), rfl⟩
    ·replace h7 : ¬ (20 < (((l.getD k d0).2.2.2.1.length : Nat) : Int)) := h7
     refine ⟨⟨by show (-9223372036854775808 : Int) ≤ ((k : Int) + 1); omega, by show ((k : Int) + 1) ≤ (9223372036854775807 : Int); omega⟩, ?_⟩
     exact ⟨rfl, l.length - (k + 1), by omega, k + 1, by omega, all_nextG (d := d0) (p := fun a : (Int × (Int × (Int × (List Int × (Int × (Int × (Int × (Int × (Int × (Int × Unit)))))))))) => a.2.2.2.1.length ≤ 20) (by omega) hal (by omega), rfl, rfl, rfl⟩
   ·replace h6 : ¬ ((k : Int) < (l.length : Int)) := h6
    first
    | exact ⟨rfl, rfl, congrArg V.b (propext ⟨fun h => Bool.noConfusion h, fun g => absurd g.1 (by omega)⟩), rfl⟩
    | exact ⟨rfl, rfl, congrArg V.b (propext ⟨fun h => Bool.noConfusion h, fun g => by have := g.2 _ (getD_mem d0 l k (by omega)); omega⟩), rfl⟩
    | exact ⟨rfl, rfl, congrArg V.b (propext ⟨fun _ => ⟨by omega, fun a ha => hal a (by rw [List.take_of_length_le (by omega)]; exact ha)⟩, fun _ => rfl⟩), rfl⟩
def CRFe : List (Nat × Con) := (44, pureC [.v (.sl (.cons (.int .i64) (.cons (.int .i64) (.cons (.int .i64) (.cons (.sl (.int .i64)) (.cons (.int .i64) (.cons (.int .i64) (.cons (.int .i64) (.cons (.int .i64) (.cons (.int .i64) (.cons (.int .i64) .nil))))))))))), .v (.int .i64)] sRFe) :: CRSm
theorem kRFe : Known Try.prog (En CRFe tys [] QOfs) := kRSm.add Try.func44 Try.call44 [.k] fun ds p v bs h hp => by
  unfold sRFe at h
  split at h <;> simp only [Option.some.injEq, Prod.mk.injEq, reduceCtorEq] at h
  obtain ⟨rfl, rfl, rfl⟩ := h
  exact bRFe _ _ hp
end Go.Proofs.Ytgljcfnplkcfhaa.S38

namespace Go.Proofs.Ytgljcfnplkcfhaa.S38
open Go Go.Proofs.Ytgljcfnplkcfhaa.Vc Go.Proofs
set_option maxRecDepth 100000
set_option linter.unusedVariables false

noncomputable def sExa : List V → Option (Prop × V × List Blk)
  | [] => some (True, .sl true (.cons (.int .i64) (.cons (.int .i64) (.cons (.int .i64) (.cons (.sl (.int .i64)) (.cons (.int .i64) (.cons (.int .i64) (.cons (.int .i64) (.cons (.int .i64) (.cons (.int .i64) (.cons (.int .i64) .nil)))))))))) exL, [])
  | _ => none
set_option maxHeartbeats 1000000 in
theorem bExa   : bodyP (En CRFe tys [] QOfs [1000002, 1000004]) Try.f92 [.d (.cons (.int .i64) (.cons (.int .i64) (.cons (.int .i64) (.cons (.sl (.int .i64)) (.cons (.int .i64) (.cons (.int .i64) (.cons (.int .i64) (.cons (.int .i64) (.cons (.int .i64) (.cons (.int .i64) .nil))))))))))] [] (.sl true (.cons (.int .i64) (.cons (.int .i64) (.cons (.int .i64) (.cons (.sl (.int .i64)) (.cons (.int .i64) (.cons (.int .i64) (.cons (.int .i64) (.cons (.int .i64) (.cons (.int .i64) (.cons (.int .i64) .nil)))))))))) exL) [] := by
 refine ⟨rfl, rfl, rfl, rfl, rfl, rfl, rfl, rfl, rfl, rfl, rfl, rfl, rfl, rfl, rfl, rfl, rfl, rfl, rfl, rfl, rfl, rfl, rfl, rfl, rfl, rfl, rfl, rfl, rfl, rfl, rfl, rfl, rfl, rfl, rfl, rfl, rfl, rfl, rfl, rfl, rfl, rfl, rfl, rfl, rfl, rfl, rfl, rfl, rfl, rfl, rfl, rfl, rfl, rfl, rfl, rfl, rfl, ?_⟩
 exact ⟨rfl, rfl, rfl, rfl⟩
def CExa : List (Nat × Con) := (92, pureC [] sExa) :: CRFe
theorem kExa : Known Try.prog (En CExa tys [] QOfs) := Known.frz0 <| (kRFe.frz [1000002, 1000004]).add Try.func92 Try.call92 [.d (.cons (.int .i64) (.cons (.int .i64) (.cons (.int .i64) (.cons (.sl (.int .i64)) (.cons (.int .i64) (.cons (.int .i64) (.cons (.int .i64) (.cons (.int .i64) (.cons (.int .i64) (.cons (.int .i64) .nil))))))))))] fun ds p v bs h hp => by
  unfold sExa at h
  split at h <;> simp only [Option.some.injEq, Prod.mk.injEq, reduceCtorEq] at h
  obtain ⟨rfl, rfl, rfl⟩ := h
  exact bExa 
noncomputable def sSpi : List V → Option (Prop × V × List Blk)
  | [.int .i64 a, .int .i64 t, .int .i64 b, .int .i64 u] => some (True, .agg [.int .i64 0, .own (.cons (.int .i64) (.cons (.int .i64) .nil)) 0], [.row true (.cons (.int .i64) (.cons (.int .i64) .nil)) ([(a, (t, ())), (b, (u, ()))] : List (Int × (Int × Unit)))])
  | _ => none
set_option maxHeartbeats 1000000 in
theorem bSpi (a : Int) (t : Int) (b : Int) (u : Int)  : bodyP (En CExa tys [] QOfs) Try.f93 [.k, .o (.cons (.int .i64) (.cons (.int .i64) .nil))] [.int .i64 a, .int .i64 t, .int .i64 b, .int .i64 u] (.agg [.int .i64 0, .own (.cons (.int .i64) (.cons (.int .i64) .nil)) 0]) [.row true (.cons (.int .i64) (.cons (.int .i64) .nil)) ([(a, (t, ())), (b, (u, ()))] : List (Int × (Int × Unit)))] := by
 refine ⟨rfl, rfl, rfl, rfl, ⟨rfl, rfl, rfl, Nat.le_of_ble_eq_true rfl⟩, ?_⟩
 exact ⟨rfl, rfl, rfl, rfl⟩
def CSpi : List (Nat × Con) := (93, pureC [.v (.int .i64), .v (.int .i64), .v (.int .i64), .v (.int .i64)] sSpi) :: CExa
theorem kSpi : Known Try.prog (En CSpi tys [] QOfs) := kExa.add Try.func93 Try.call93 [.k, .o (.cons (.int .i64) (.cons (.int .i64) .nil))] fun ds p v bs h hp => by
  unfold sSpi at h
  split at h <;> simp only [Option.some.injEq, Prod.mk.injEq, reduceCtorEq] at h
  obtain ⟨rfl, rfl, rfl⟩ := h
  exact bSpi _ _ _ _
noncomputable def sHol : List V → Option (Prop × V × List Blk)
  | [.sl false (.int .i64) s, .int .i64 x] => some (s.length ≤ 1048576, .b (x ∈ s), [])
  | _ => none
set_option maxHeartbeats 1000000 in
theorem bHol (s : List Int) (x : Int) (hp0 : s.length ≤ 1048576) : bodyP (En CSpi tys [] QOfs) Try.f72 [.k] [.sl false (.int .i64) s, .int .i64 x] (.b (x ∈ s)) [] := by
 refine ⟨0, [(1, .k), (7, .k), (8, .k), (9, .k)], fun nM vs H => ∃ (k : Nat), k ≤ s.length ∧ x ∉ s.take k ∧ nM = s.length - k ∧ vs = [.int .i64 x, .sl false (.int .i64) s, .int .i64 (s.length : Int), .int .i64 (k : Int)] ∧ H = [], ⟨rfl, s.length, 0, by omega, by simp, by omega, rfl, rfl⟩, ?_⟩
 rintro nM vs H ⟨k, hc1_0, hc1_1, rfl, rfl, rfl⟩
 refine ⟨fun h0 => ?_, fun h0 => ?_⟩
 ·replace h0 : (k : Int) < (s.length : Int) := h0
  refine ⟨⟨by show (0 : Int) ≤ (k : Int); omega, by show (k : Int) < (s.length : Int); omega⟩, fun h1 => ?_, fun h1 => ?_⟩
  ·replace h1 : (s.getD k 0) = x := h1
   exact ⟨rfl, rfl, congrArg V.b (propext ⟨fun _ => h1 ▸ getD_mem 0 s k (by omega), fun _ => rfl⟩), rfl⟩
  ·replace h1 : ¬ ((s.getD k 0) = x) := h1
   refine ⟨⟨by show (-9223372036854775808 : Int) ≤ ((k : Int) + 1); omega, by show ((k : Int) + 1) ≤ (9223372036854775807 : Int); omega⟩, ?_⟩
   exact ⟨rfl, s.length - (k + 1), by omega, k + 1, by omega, mem_next (by omega) hc1_1 h1, rfl, rfl, rfl⟩
 ·replace h0 : ¬ ((k : Int) < (s.length : Int)) := h0
  exact ⟨rfl, rfl, congrArg V.b (propext ⟨fun h => Bool.noConfusion h, fun h => absurd (by rw [List.take_of_length_le (by omega)]; exact h) hc1_1⟩), rfl⟩
def CHol : List (Nat × Con) := (72, pureC [.v (.sl (.int .i64)), .v (.int .i64)] sHol) :: CSpi
theorem kHol : Known Try.prog (En CHol tys [] QOfs) := kSpi.add Try.func72 Try.call72 [.k] fun ds p v bs h hp => by
  unfold sHol at h
  split at h <;> simp only [Option.some.injEq, Prod.mk.injEq, reduceCtorEq] at h
  obtain ⟨rfl, rfl, rfl⟩ := h
  exact bHol _ _ hp
noncomputable def sSan : List V → Option (Prop × V × List Blk)
  | [] => some (True, .b True, [])
  | _ => none
set_option maxHeartbeats 8000000 in
theorem bSan   : bodyP (En CHol tys [] QOfs [1000002, 1000004]) Try.f45 [.k] [] (.b True) [] := by
 refine ⟨trivial, rfl, ⟨by decide +kernel, by decide +kernel⟩, rfl, ⟨by decide +kernel, by decide +kernel⟩, rfl, rfl, ⟨by decide +kernel, by decide +kernel⟩, rfl, rfl, ⟨by decide +kernel, by decide +kernel⟩, rfl, ⟨by decide +kernel, by decide +kernel⟩, rfl, rfl, ⟨by decide +kernel, by decide +kernel⟩, rfl, rfl, rfl, ⟨by decide +kernel, by decide +kernel, by decide +kernel⟩, rfl, rfl, rfl, rfl, trivial, rfl, rfl, rfl, ⟨by decide +kernel, by decide +kernel, by decide +kernel⟩, rfl, rfl, rfl, rfl, trivial, rfl, rfl, rfl, ⟨by decide +kernel, by decide +kernel, by decide +kernel⟩, rfl, rfl, rfl, rfl, trivial, rfl, rfl, rfl, ⟨by decide +kernel, by decide +kernel, by decide +kernel⟩, rfl, rfl, ⟨by decide +kernel, by decide +kernel⟩, rfl, rfl, ⟨by decide +kernel, by decide +kernel⟩, rfl, rfl, ⟨by decide +kernel, by decide +kernel⟩, rfl, rfl, ⟨by decide +kernel, by decide +kernel⟩, rfl, rfl, ⟨by decide +kernel, by decide +kernel⟩, by kernel_rfl, ⟨by first | omega | decide +kernel, by first | omega | decide +kernel⟩, ⟨by show (0 : Int) ≤ 2; first | omega | decide +kernel, by show 2 < (exL.length : Int); first | omega | decide +kernel⟩, rfl, rfl, rfl, rfl, rfl, rfl, rfl, rfl, rfl, ⟨by decide +kernel, by decide +kernel, by decide +kernel⟩, rfl, rfl, rfl, rfl, rfl, rfl, rfl, rfl, rfl, rfl, ⟨by decide +kernel, by decide +kernel, by decide +kernel⟩, fun h0 => ?_, fun h0 => absurd (show (closE exL 1) = 0 by decide +kernel) h0⟩
 refine ⟨fun h1 => ?_, fun h1 => absurd (show (closE exL 3) = 0 by decide +kernel) h1⟩
 refine ⟨fun h2 => ?_, fun h2 => absurd (show (askE exL 7 11 0 1000000) = 0 by decide +kernel) h2⟩
 refine ⟨fun h3 => ?_, fun h3 => absurd (show (askE exL 7 11 0 1000000) = 0 by decide +kernel) h3⟩
 refine ⟨fun h4 => ?_, fun h4 => absurd (show (askE exL 7 0 0 0) = 0 by decide +kernel) h4⟩
 refine ⟨fun h5 => ?_, fun h5 => absurd (show (askE exL 7 28 0 1000000) = 0 by decide +kernel) h5⟩
 refine ⟨fun h6 => ?_, fun h6 => absurd (show (hasE exL 0 ([(1, 24, ())] : List (Int × (Int × Unit)))) = 0 by decide +kernel) h6⟩
 refine ⟨fun h7 => ?_, fun h7 => absurd (show (tolE exL 7 2 0 ([(1, (24, ())), (0, (50, ()))] : List (Int × (Int × Unit)))) = 0 by decide +kernel) h7⟩
 refine ⟨fun h8 => ?_, fun h8 => absurd (show (tolE exL 7 2 0 ([(1, (25, ())), (0, (50, ()))] : List (Int × (Int × Unit)))) = 0 by decide +kernel) h8⟩
 refine ⟨fun h9 => ?_, fun h9 => absurd (show (tolE exL 7 2 0 ([(0, (11, ())), (0, (11, ()))] : List (Int × (Int × Unit)))) = 0 by decide +kernel) h9⟩
 refine ⟨fun h10 => ?_, fun h10 => absurd (show (endE exL 2 21) = 0 by decide +kernel) h10⟩
 refine ⟨fun h11 => ?_, fun h11 => absurd (show (purE exL 7 31) = 0 by decide +kernel) h11⟩
 refine ⟨fun h12 => ?_, fun h12 => absurd (show (askE (purL exL 7 31) 7 31 0 1000000) = 0 by decide +kernel) h12⟩
 refine ⟨fun h13 => ?_, fun h13 => absurd (show (endE exL 2 19) = 1 by decide +kernel) h13⟩
 refine ⟨fun h14 => ?_, fun h14 => absurd (show (endE exL 1 40) = 4 by decide +kernel) h14⟩
 refine ⟨fun h15 => ?_, fun h15 => absurd (show (addE exL (7, (2, (7, (([3] : List Int), (0, (0, (30, (40, ((-1), (0, ()))))))))))) = 4 by decide +kernel) h15⟩
 refine ⟨⟨by decide +kernel, by decide +kernel⟩, fun h16 => ?_, fun h16 => absurd (show (chkL exL) = 0 by decide +kernel) h16⟩
 refine ⟨⟨by show (0 : Int) ≤ 1; first | omega | decide +kernel, by show 1 < (exL.length : Int); first | omega | decide +kernel⟩, rfl, rfl, rfl, rfl, rfl, rfl, rfl, rfl, rfl, ⟨by decide +kernel, by decide +kernel⟩, rfl, rfl, rfl, ⟨by decide +kernel, by decide +kernel⟩, fun h17 => ?_, fun h17 => absurd (show (blwL exL 1) = ([2, 3, 6] : List Int) by decide +kernel) h17⟩
 refine ⟨rfl, rfl, ⟨by decide +kernel, by decide +kernel⟩, fun h18 => ?_, fun h18 => absurd (show (abvL exL 3) = ([1, 2] : List Int) by decide +kernel) h18⟩
 refine ⟨rfl, rfl, rfl, rfl, rfl, ⟨by decide +kernel, by decide +kernel⟩, fun h19 => ?_, fun h19 => absurd (show (atL exL 7 11) = ([1, 2, 4, 5, 6] : List Int) by decide +kernel) h19⟩
 refine ⟨rfl, rfl, ⟨by decide +kernel, by decide +kernel⟩, fun h20 => ?_, fun h20 => absurd (show (laL exL 7 28) = ([2, 4] : List Int) by decide +kernel) h20⟩
 refine ⟨rfl, rfl, ⟨by decide +kernel, by decide +kernel⟩, fun h21 => ?_, fun h21 => absurd h21 (show ¬ (¬ ((addE (exL.take 2) ((exL.getD 2 d0).1, ((exL.getD 2 d0).2.1, ((exL.getD 2 d0).2.2.1, ((exL.getD 2 d0).2.2.2.1, ((exL.getD 2 d0).2.2.2.2.1, ((exL.getD 2 d0).2.2.2.2.2.1, ((exL.getD 2 d0).2.2.2.2.2.2.1, ((exL.getD 2 d0).2.2.2.2.2.2.2.1, ((exL.getD 2 d0).2.2.2.2.2.2.2.2.1, ((exL.getD 2 d0).2.2.2.2.2.2.2.2.2.1, ()))))))))))) = 0)) by decide +kernel)⟩
 refine ⟨fun h22 => ?_, fun h22 => absurd h22 (show ¬ (¬ ((chkL ([((exL.getD 1 d0).1, (exL.getD 1 d0).2.1, (exL.getD 1 d0).2.2.1, (exL.getD 1 d0).2.2.2.1, (exL.getD 1 d0).2.2.2.2.1, (exL.getD 1 d0).2.2.2.2.2.1, (exL.getD 1 d0).2.2.2.2.2.2.1, (exL.getD 1 d0).2.2.2.2.2.2.2.1, (exL.getD 1 d0).2.2.2.2.2.2.2.2.1, (exL.getD 1 d0).2.2.2.2.2.2.2.2.2.1, ())] : List (Int × (Int × (Int × (List Int × (Int × (Int × (Int × (Int × (Int × (Int × Unit)))))))))))) = 8)) by decide +kernel)⟩
 refine ⟨fun h23 => ?_, fun h23 => absurd h23 (show ¬ (¬ ((hasL exL 0 ([(1, 24, ())] : List (Int × (Int × Unit)))) = ([2, 5] : List Int))) by decide +kernel)⟩
 refine ⟨fun h24 => ?_, fun h24 => absurd h24 (show ¬ ((((endL exL 2 21).length : Nat) : Int) ≠ 6) by decide +kernel)⟩
 refine ⟨fun h25 => absurd h25 (show ¬ ((((purL exL 7 31).length : Nat) : Int) ≠ 6) by decide +kernel), fun h25 => ?_⟩
 refine ⟨fun h26 => ?_, fun h26 => absurd (show (whL exL 7 11) = 11 by decide +kernel) h26⟩
 refine ⟨fun h27 => ?_, fun h27 => absurd (show (trL exL 7) = 15 by decide +kernel) h27⟩
 refine ⟨fun h28 => ?_, fun h28 => absurd (show tolT exL 7 2 0 ([(1, (24, ())), (0, (50, ()))] : List (Int × (Int × Unit))) = true by decide +kernel) h28⟩
 refine ⟨fun h29 => ?_, fun h29 => absurd (show ¬ (tolT exL 7 2 0 ([(1, (25, ())), (0, (50, ()))] : List (Int × (Int × Unit))) = true) by decide +kernel) h29⟩
 refine ⟨fun h30 => ?_, fun h30 => absurd (show tolT exL 7 2 0 ([(0, (11, ())), (0, (11, ()))] : List (Int × (Int × Unit))) = true by decide +kernel) h30⟩
 refine ⟨⟨by show (0 : Int) ≤ 1; first | omega | decide +kernel, by show 1 < ((endL exL 2 21).length : Int); first | omega | decide +kernel⟩, fun h31 => ?_, fun h31 => absurd (show ((endL exL 2 21).getD 1 d0).2.2.2.2.2.2.2.1 = 21 by decide +kernel) h31⟩
 refine ⟨⟨by show (0 : Int) ≤ 1; first | omega | decide +kernel, by show 1 < ((purL exL 7 31).length : Int); first | omega | decide +kernel⟩, fun h32 => ?_, fun h32 => absurd (show ((purL exL 7 31).getD 1 d0).2.2.2.2.2.2.2.1 = 31 by decide +kernel) h32⟩
 refine ⟨⟨by show (0 : Int) ≤ 2; first | omega | decide +kernel, by show 2 < ((purL exL 7 31).length : Int); first | omega | decide +kernel⟩, fun h33 => ?_, fun h33 => absurd (show ((purL exL 7 31).getD 2 d0).2.2.2.2.2.2.2.1 = 30 by decide +kernel) h33⟩
 refine ⟨fun h34 => ?_, fun h34 => absurd (show (((laL (purL exL 7 31) 7 31).length : Nat) : Int) = 0 by decide +kernel) h34⟩
 refine ⟨⟨by first | omega | decide +kernel, by first | omega | decide +kernel⟩, ⟨by decide +kernel, by decide +kernel, by decide +kernel, by decide +kernel⟩, ?_⟩
 exact ⟨rfl, rfl, congrArg V.b (propext ⟨fun _ => trivial, fun _ => show @Eq (List ((Int × (Int × (Int × (List Int × (Int × (Int × (Int × (Int × (Int × (Int × Unit)))))))))))) ((addL (exL.take 2) ((exL.getD 2 d0).1, ((exL.getD 2 d0).2.1, ((exL.getD 2 d0).2.2.1, ((exL.getD 2 d0).2.2.2.1, ((exL.getD 2 d0).2.2.2.2.1, ((exL.getD 2 d0).2.2.2.2.2.1, ((exL.getD 2 d0).2.2.2.2.2.2.1, ((exL.getD 2 d0).2.2.2.2.2.2.2.1, ((exL.getD 2 d0).2.2.2.2.2.2.2.2.1, ((exL.getD 2 d0).2.2.2.2.2.2.2.2.2.1, ())))))))))))) (exL.take 3) from by decide +kernel⟩), rfl⟩
def CSan : List (Nat × Con) := (45, pureC [] sSan) :: CHol
theorem kSan : Known Try.prog (En CSan tys [] QOfs) := Known.frz0 <| (kHol.frz [1000002, 1000004]).add Try.func45 Try.call45 [.k] fun ds p v bs h hp => by
  unfold sSan at h
  split at h <;> simp only [Option.some.injEq, Prod.mk.injEq, reduceCtorEq] at h
  obtain ⟨rfl, rfl, rfl⟩ := h
  exact bSan 
end Go.Proofs.Ytgljcfnplkcfhaa.S38

namespace Go.Proofs.Ytgljcfnplkcfhaa.S38
open Go

theorem upA_one (of : List Int) : upA (incB of) 1 = true := by simp [upA, incB]
theorem upA_end {of : List Int} {j : Nat} (h : upA (incB of) (j + 1) = true) (hj : of.length ≤ j + 1) : upA (incB of) of.length = true := upA_iff.2 fun k hk => upA_iff.1 h k (by omega)
theorem incB_no {of : List Int} {j : Nat} (h : of.getD (j + 1) 0 ≤ of.getD j 0) : incB of (j + 1) = false := decide_eq_false (by rw [Nat.add_sub_cancel]; omega)
theorem incB_yes {of : List Int} {j : Nat} (h : ¬ of.getD (j + 1) 0 ≤ of.getD j 0) : incB of (j + 1) = true := decide_eq_true (by rw [Nat.add_sub_cancel]; omega)
theorem find_eq {l : List (Int × (Int × (Int × (List Int × (Int × (Int × (Int × (Int × (Int × (Int × Unit))))))))))} {i : Int} {n : Nat} (h : ¬ findL (l.take n) i < 0) : findL (l.take n) i = findL l i ∧ 0 ≤ findL l i ∧ findL l i < n := by
  obtain ⟨h1, h2, h3⟩ := ixP_take h
  exact ⟨h1.symm, find_take h⟩
theorem upE_fmd {l : List (Int × (Int × (Int × (List Int × (Int × (Int × (Int × (Int × (Int × (Int × Unit))))))))))} {n k : Nat} (h : upE l n = 0) (hk : k < n) : fmdA (l.getD k d0) := one_fmd (upE_zero.1 h k hk)
end Go.Proofs.Ytgljcfnplkcfhaa.S38

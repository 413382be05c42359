/- Texts of this claim: S26.C6, S26.L1, S26.L2, S26.P6d, S26.P6e, S26.P6f, S26.P6g. -/
import Derived.Test.YtakbedmeieeekaaDoorS3
set_option linter.unusedVariables false
set_option linter.unusedSimpArgs false
namespace Go.Proofs.YtakbedmeieeekaaDoor.S26
open Go Go.Proofs.YtakbedmeieeekaaDoor.Vc Go.Proofs
set_option maxRecDepth 100000
set_option linter.unusedVariables false

def sRdf : List V → Option (Prop × V × List Blk)
  | [.sl false (.cons (.int .i64) (.cons .str .nil)) l, .sl false (.cons (.int .i64) (.cons .str .nil)) b, .int .i64 nd] => some (l.length ≤ 1048576 ∧ 1 ≤ nd ∧ nd ≤ 12 ∧ (b.length : Int) = nd ∧ (∀ x ∈ b, x.2.1.length = lnS b) ∧ (∀ s ∈ b, knw s.1) ∧ lnS b ≤ 1048576 ∧ (∀ s ∈ l, knw s.1), .own (.int .i64) 0, [.row true (.int .i64) (dfF b (lnS b) l)])
  | _ => none
set_option maxHeartbeats 1000000 in
theorem bRdf (l : List (Int × (List UInt8 × Unit))) (b : List (Int × (List UInt8 × Unit))) (nd : Int) (hp0 : l.length ≤ 1048576) (hp1 : 1 ≤ nd) (hp2 : nd ≤ 12) (hp3 : (b.length : Int) = nd) (hp4 : (∀ x ∈ b, x.2.1.length = lnS b)) (hp5 : (∀ s ∈ b, knw s.1)) (hp6 : lnS b ≤ 1048576) (hp7 : (∀ s ∈ l, knw s.1)) : bodyP (En CRFw tys G6 QCo2) Tryd.f73 [.o (.int .i64)] [.sl false (.cons (.int .i64) (.cons .str .nil)) l, .sl false (.cons (.int .i64) (.cons .str .nil)) b, .int .i64 nd] (.own (.int .i64) 0) [.row true (.int .i64) (dfF b (lnS b) l)] := by
  have htk : b.take nd.toNat = b := List.take_of_length_le (by omega)
  refine ⟨0, [(0, .k), (1, .k), (2, .k), (7, .o (.int .i64)), (8, .k)], fun nM vs H => ∃ (k : Nat), k ≤ l.length ∧ nM = l.length - k ∧ vs = [.sl false (.cons (.int .i64) (.cons .str .nil)) l, .sl false (.cons (.int .i64) (.cons .str .nil)) b, .int .i64 nd, .own (.int .i64) 0, .int .i64 (k : Int)] ∧ H = [.row true (.int .i64) (dfF b (lnS b) (l.take k))], ⟨rfl, l.length, 0, by omega, by omega, rfl, rfl⟩, ?_⟩
  rintro nM vs H ⟨k, hc1_0, rfl, rfl, rfl⟩
  have hdl := dfF_len b (lnS b) (l.take k)
  rw [List.length_take] at hdl
  refine ⟨fun h0 => ?_, fun h0 => ?_⟩
  · replace h0 : (k : Int) < (l.length : Int) := h0
    have hk : k < l.length := by omega
    obtain ⟨a1, a2⟩ := hp7 _ (getD_mem (0, [], ()) l k hk)
    refine ⟨⟨by show (0 : Int) ≤ (k : Int); omega, by show (k : Int) < (l.length : Int); omega⟩, ⟨by show (-9223372036854775808 : Int) ≤ (((l.getD k (0, ([], ()))).1) + 1); omega, by show (((l.getD k (0, ([], ()))).1) + 1) ≤ (9223372036854775807 : Int); omega⟩, rfl, ⟨by show b.length ≤ 1048576; first | omega | assumption, by show 1 ≤ nd; first | omega | assumption, by show nd ≤ (b.length : Int); first | omega | assumption, hp4, hp5, by show lnS b ≤ 1048576; first | omega | assumption⟩, ⟨by show (0 : Int) ≤ (k : Int); omega, by show (k : Int) < (l.length : Int); omega⟩, fun h1 => ?_, fun h1 => ?_⟩
    · replace h1 : (vlB (b.take nd.toNat) (lnS b) (UInt8.ofNat ((((l.getD k (0, ([], ()))).1) + 1) % 256).toNat)) ≠ (((l.getD k (0, ([], ()))).2).1) := h1
      rw [htk] at h1
      refine ⟨⟨by show (0 : Int) ≤ (k : Int); omega, by show (k : Int) < (l.length : Int); omega⟩, rfl, ⟨rfl, rfl⟩, by show (dfF b (lnS b) (l.take k)).length + ([(l.getD k (0, ([], ()))).1] : List Int).length ≤ 1000000000; simp only [List.length_cons, List.length_nil]; omega, ⟨by show (-9223372036854775808 : Int) ≤ ((k : Int) + 1); omega, by show ((k : Int) + 1) ≤ (9223372036854775807 : Int); omega⟩, ?_⟩
      first
      | exact ⟨rfl, l.length - (k + 1), by omega, k + 1, by omega, rfl, rfl, by rw [dfF_yes hk h1]; rfl⟩
      | exact ⟨rfl, l.length - (k + 1), by omega, k + 1, by omega, rfl, rfl, by rw [dfF_no hk h1]; rfl⟩
    · replace h1 : ¬ ((vlB (b.take nd.toNat) (lnS b) (UInt8.ofNat ((((l.getD k (0, ([], ()))).1) + 1) % 256).toNat)) ≠ (((l.getD k (0, ([], ()))).2).1)) := h1
      rw [htk] at h1
      refine ⟨⟨by show (-9223372036854775808 : Int) ≤ ((k : Int) + 1); omega, by show ((k : Int) + 1) ≤ (9223372036854775807 : Int); omega⟩, ?_⟩
      first
      | exact ⟨rfl, l.length - (k + 1), by omega, k + 1, by omega, rfl, rfl, by rw [dfF_yes hk h1]; rfl⟩
      | exact ⟨rfl, l.length - (k + 1), by omega, k + 1, by omega, rfl, rfl, by rw [dfF_no hk h1]; rfl⟩
  · replace h0 : ¬ ((k : Int) < (l.length : Int)) := h0
    rw [show dfF b (lnS b) l = dfF b (lnS b) (l.take k) by rw [List.take_of_length_le (by omega)]]
    exact ⟨rfl, rfl, rfl, rfl⟩
def CRdf : List (Nat × Con) := (73, pureC [.v (.sl (.cons (.int .i64) (.cons .str .nil))), .v (.sl (.cons (.int .i64) (.cons .str .nil))), .v (.int .i64)] sRdf) :: CRFw
theorem kRdf : Known Tryd.prog (En CRdf tys G6 QCo2) := kRFw.add Tryd.func73 Tryd.call73 [.o (.int .i64)] fun ds p v bs h hp => by
  unfold sRdf at h
  split at h <;> simp only [Option.some.injEq, Prod.mk.injEq, reduceCtorEq] at h
  obtain ⟨rfl, rfl, rfl⟩ := h
  exact bRdf _ _ _ hp.1 hp.2.1 hp.2.2.1 hp.2.2.2.1 hp.2.2.2.2.1 hp.2.2.2.2.2.1 hp.2.2.2.2.2.2.1 hp.2.2.2.2.2.2.2
def sRco : List V → Option (Prop × V × List Blk)
  | [.sl false (.cons (.int .i64) (.cons .str .nil)) l, .int .i64 nd, .int .i64 w, .sl false (.cons (.int .i64) (.cons .str .nil)) b, .int .i64 fr] => some (chkE l = 0 ∧ 1 ≤ nd ∧ nd ≤ 12 ∧ 0 ≤ w ∧ (∀ s ∈ b, s ∈ l) ∧ (b.length : Int) ≤ nd ∧ 0 ≤ fr ∧ fr ≤ (l.length : Int), .agg [.str ((cor l nd w (l.drop fr.toNat) b).1), .own (.int .i64) 0, .int .i64 ((cor l nd w (l.drop fr.toNat) b).2.2)], [.row true (.int .i64) ((cor l nd w (l.drop fr.toNat) b).2.1)])
  | _ => none
def mRco : List V → Nat
  | [.sl false (.cons (.int .i64) (.cons .str .nil)) l, .int .i64 nd, .int .i64 w, .sl false (.cons (.int .i64) (.cons .str .nil)) b, .int .i64 fr] => l.length + 1 - fr.toNat
  | _ => 0
set_option maxHeartbeats 2000000 in
theorem bRco (l : List (Int × (List UInt8 × Unit))) (nd : Int) (w : Int) (b : List (Int × (List UInt8 × Unit))) (fr : Int) (hp0 : chkE l = 0) (hp1 : 1 ≤ nd) (hp2 : nd ≤ 12) (hp3 : 0 ≤ w) (hp4 : (∀ s ∈ b, s ∈ l)) (hp5 : (b.length : Int) ≤ nd) (hp6 : 0 ≤ fr) (hp7 : fr ≤ (l.length : Int)) : bodyP (En ((51, pureC [.v (.sl (.cons (.int .i64) (.cons .str .nil))), .v (.int .i64), .v (.int .i64), .v (.sl (.cons (.int .i64) (.cons .str .nil))), .v (.int .i64)] (recS mRco (l.length + 1 - fr.toNat) sRco)) :: CRdf) tys G6 QCo2) Tryd.f51 [.k, .o (.int .i64), .k] [.sl false (.cons (.int .i64) (.cons .str .nil)) l, .int .i64 nd, .int .i64 w, .sl false (.cons (.int .i64) (.cons .str .nil)) b, .int .i64 fr] (.agg [.str ((cor l nd w (l.drop fr.toNat) b).1), .own (.int .i64) 0, .int .i64 ((cor l nd w (l.drop fr.toNat) b).2.2)]) [.row true (.int .i64) ((cor l nd w (l.drop fr.toNat) b).2.1)] := by
  have hc := chk0 hp0
  have hcl := hc.len
  have hcm := hc.max
  have hcb := hc.bytes
  have hch := hc.house
  have htk : (b.length : Int) = nd → b.take nd.toNat = b := fun h => List.take_of_length_le (by omega)
  refine ⟨fun h0 => ?_, fun h0 => ?_⟩
  · replace h0 : (b.length : Int) = nd := h0
    have hlb : lnS b = lnS l := hcb _ (hp4 _ (getD_mem (0, [], ()) b 0 (by omega)))
    have hbe : ∀ x ∈ b, x.2.1.length = lnS b := fun x hx => by rw [hlb]; exact hcb x (hp4 x hx)
    have hbk : ∀ s ∈ b, knw s.1 := fun s hs => hch s (hp4 s hs)
    refine ⟨rfl, ⟨by show l.length ≤ 1048576; first | omega | assumption, by show 1 ≤ nd; first | omega | assumption, by show nd ≤ 12; first | omega | assumption, by show (b.length : Int) = nd; first | omega | assumption, hbe, hbk, by show lnS b ≤ 1048576; first | omega | assumption, hch⟩, fun h1 => ?_, fun h1 => ?_⟩
    · replace h1 : w < (((dfF b (lnS b) l).length : Nat) : Int) := h1
      refine ⟨⟨rfl, rfl, rfl, Nat.le_of_ble_eq_true rfl⟩, ?_⟩
      have e : cor l nd w (l.drop fr.toNat) b = ([], [], 17) := by rw [cor_at h0, cdR, if_neg (by unfold cdE; rw [if_pos (by rw [← hlb]; exact h1)]; decide)]
      rw [e]
      exact ⟨rfl, rfl, rfl, rfl⟩
    · replace h1 : ¬ (w < (((dfF b (lnS b) l).length : Nat) : Int)) := h1
      refine ⟨rfl, ⟨by show b.length ≤ 1048576; first | omega | assumption, by show 1 ≤ nd; first | omega | assumption, by show nd ≤ (b.length : Int); first | omega | assumption, hbe, hbk, by show lnS b ≤ 1048576; first | omega | assumption⟩, ⟨rfl, rfl, rfl, Nat.le_of_ble_eq_true rfl⟩, ?_⟩
      have e : cor l nd w (l.drop fr.toNat) b = (vlB (b.take nd.toNat) (lnS b) 0, dfF b (lnS b) l, 0) := by rw [htk h0, hlb, cor_at h0, cdR, if_pos (by unfold cdE; rw [if_neg (by rw [← hlb]; exact h1)])]
      rw [e]
      exact ⟨rfl, rfl, rfl, rfl⟩
  · replace h0 : ¬ ((b.length : Int) = nd) := h0
    refine ⟨1, [(0, .k), (1, .k), (2, .k), (3, .k), (10, .k), (12, .k)], fun nM vs H => ∃ (k : Nat), fr ≤ (k : Int) ∧ k ≤ l.length ∧ (cor l nd w (l.drop fr.toNat) b) = (cor l nd w (l.drop k) b) ∧ nM = l.length - k ∧ vs = [.sl false (.cons (.int .i64) (.cons .str .nil)) l, .int .i64 nd, .int .i64 w, .sl false (.cons (.int .i64) (.cons .str .nil)) b, .ptr 0 1 0 0, .int .i64 (k : Int)] ∧ H = [.cells [.str ([]), .nils, .int .i64 0]], ⟨rfl, l.length - fr.toNat, fr.toNat, by omega, by omega, rfl, by omega, by rw [Int.toNat_of_nonneg hp6]; rfl, rfl⟩, ?_⟩
    rintro nM vs H ⟨k, hc1_0, hc1_1, hc1_2, rfl, rfl, rfl⟩
    refine ⟨fun h2 => ?_, fun h2 => ?_⟩
    · replace h2 : (k : Int) < (l.length : Int) := h2
      have hk : k < l.length := by omega
      have ek : ((k : Int) + 1).toNat = k + 1 := by omega
      refine ⟨by kernel_rfl, ⟨rfl, rfl⟩, by show ([] : List (Int × (List UInt8 × Unit))).length + b.length ≤ 1000000000; simp only [List.length_cons, List.length_nil]; omega, ⟨by show (0 : Int) ≤ (k : Int); omega, by show (k : Int) < (l.length : Int); omega⟩, rfl, ⟨rfl, rfl⟩, by show (([] : List (Int × (List UInt8 × Unit))) ++ b).length + ([((l.getD k (0, ([], ()))).1, ((l.getD k (0, ([], ()))).2).1, ())] : List (Int × (List UInt8 × Unit))).length ≤ 1000000000; simp only [List.length_append, List.length_cons, List.length_nil]; omega, ⟨by show (-9223372036854775808 : Int) ≤ ((k : Int) + 1); omega, by show ((k : Int) + 1) ≤ (9223372036854775807 : Int); omega⟩, rfl, rfl, rfl, ⟨⟨by show chkE l = 0; first | omega | assumption, by show 1 ≤ nd; first | omega | assumption, by show nd ≤ 12; first | omega | assumption, by show 0 ≤ w; first | omega | assumption, fun s hs => by rcases List.mem_append.1 hs with h | h; (exact hp4 s h); (rw [List.mem_singleton] at h; rw [h]; exact getD_mem (0, [], ()) l k hk), by show (((([] : List (Int × (List UInt8 × Unit))) ++ b) ++ ([((l.getD k (0, ([], ()))).1, ((l.getD k (0, ([], ()))).2).1, ())] : List (Int × (List UInt8 × Unit)))).length : Int) ≤ nd; first | omega | assumption | (simp only [List.length_cons, List.length_nil, List.length_append, List.length_take, List.length_drop, List.length_set, List.length_replicate]; omega), by show 0 ≤ ((k : Int) + 1); first | omega | assumption, by show ((k : Int) + 1) ≤ (l.length : Int); first | omega | assumption⟩, by show l.length + 1 - ((k : Int) + 1).toNat < l.length + 1 - fr.toNat; omega⟩, ⟨rfl, rfl, rfl, Nat.le_of_ble_eq_true rfl⟩, fun h3 => ?_, fun h3 => ?_⟩
      · replace h3 : ((cor l nd w (l.drop ((k : Int) + 1).toNat) ((([] : List (Int × (List UInt8 × Unit))) ++ b) ++ ([((l.getD k (0, ([], ()))).1, ((l.getD k (0, ([], ()))).2).1, ())] : List (Int × (List UInt8 × Unit))))).2.2) = 0 := h3
        have e : cor l nd w (l.drop fr.toNat) b = cor l nd w (l.drop ((k : Int) + 1).toNat) (b ++ [l.getD k (0, [], ())]) := by (replace h3 : (cor l nd w (l.drop (k + 1)) (b ++ [l.getD k (0, [], ())])).2.2 = 0 := by rw [← ek]; exact h3); rw [hc1_2, ek, cor_next h0 hk, if_pos h3]
        refine ⟨⟨rfl, rfl, rfl, Nat.le_of_ble_eq_true rfl⟩, ?_⟩
        rw [e]
        exact ⟨rfl, rfl, rfl, rfl⟩
      · replace h3 : ¬ (((cor l nd w (l.drop ((k : Int) + 1).toNat) ((([] : List (Int × (List UInt8 × Unit))) ++ b) ++ ([((l.getD k (0, ([], ()))).1, ((l.getD k (0, ([], ()))).2).1, ())] : List (Int × (List UInt8 × Unit))))).2.2) = 0) := h3
        have hn : cor l nd w (l.drop fr.toNat) b = cor l nd w (l.drop (k + 1)) b := by (replace h3 : ¬ (cor l nd w (l.drop (k + 1)) (b ++ [l.getD k (0, [], ())])).2.2 = 0 := by rw [← ek]; exact h3); rw [hc1_2, cor_next h0 hk, if_neg h3]
        refine ⟨⟨by show (-9223372036854775808 : Int) ≤ ((k : Int) + 1); omega, by show ((k : Int) + 1) ≤ (9223372036854775807 : Int); omega⟩, ?_⟩
        exact ⟨rfl, l.length - (k + 1), by omega, k + 1, by omega, by omega, hn, rfl, rfl, rfl⟩
    · replace h2 : ¬ ((k : Int) < (l.length : Int)) := h2
      refine ⟨⟨rfl, rfl, rfl, Nat.le_of_ble_eq_true rfl⟩, ?_⟩
      have e : cor l nd w (l.drop fr.toNat) b = ([], [], 17) := by rw [hc1_2, List.drop_of_length_le (by omega), cor, if_neg h0]
      rw [e]
      exact ⟨rfl, rfl, rfl, rfl⟩
def CRco : List (Nat × Con) := (51, pureC [.v (.sl (.cons (.int .i64) (.cons .str .nil))), .v (.int .i64), .v (.int .i64), .v (.sl (.cons (.int .i64) (.cons .str .nil))), .v (.int .i64)] sRco) :: CRdf
theorem kRco : Known Tryd.prog (En CRco tys G6 QCo2) := kRdf.addRec Tryd.func51 Tryd.call51 [.k, .o (.int .i64), .k] mRco fun ds p v bs h hp => by
  unfold sRco at h
  split at h <;> simp only [Option.some.injEq, Prod.mk.injEq, reduceCtorEq] at h
  obtain ⟨rfl, rfl, rfl⟩ := h
  exact bRco _ _ _ _ _ hp.1 hp.2.1 hp.2.2.1 hp.2.2.2.1 hp.2.2.2.2.1 hp.2.2.2.2.2.1 hp.2.2.2.2.2.2.1 hp.2.2.2.2.2.2.2
def sRRo : List V → Option (Prop × V × List Blk)
  | [.sl false (.cons (.int .i64) (.cons .str .nil)) l, .int .i64 nd, .int .i64 w] => some (l.length ≤ 1048576, .agg [.str ((rrR l nd w).1), .own (.int .i64) 0, .int .i64 ((rrR l nd w).2.2)], [.row true (.int .i64) ((rrR l nd w).2.1)])
  | _ => none
set_option maxHeartbeats 1000000 in
theorem bRRo (l : List (Int × (List UInt8 × Unit))) (nd : Int) (w : Int) (hp0 : l.length ≤ 1048576) : bodyP (En CRco tys G6 QCo2) Tryd.f28 [.k, .o (.int .i64), .k] [.sl false (.cons (.int .i64) (.cons .str .nil)) l, .int .i64 nd, .int .i64 w] (.agg [.str ((rrR l nd w).1), .own (.int .i64) 0, .int .i64 ((rrR l nd w).2.2)]) [.row true (.int .i64) ((rrR l nd w).2.1)] := by
  refine ⟨rfl, by show l.length ≤ 1048576; first | omega | assumption, fun h0 => ?_, fun h0 => ?_⟩
  · replace h0 : (rdE l nd) ≠ 0 := h0
    refine ⟨⟨rfl, rfl, rfl, Nat.le_of_ble_eq_true rfl⟩, ?_⟩
    rw [show rrR l nd w = ([], [], rdE l nd) by unfold rrR; rw [if_neg h0]]
    exact ⟨rfl, rfl, rfl, rfl⟩
  · replace h0 : ¬ ((rdE l nd) ≠ 0) := h0
    have r := Classical.not_not.1 h0
    obtain ⟨r1, r2, r3⟩ := rd0 r
    have hrl := (chk0 r1).len
    refine ⟨fun h1 => ?_, fun h1 => ?_⟩
    · replace h1 : w < 0 := h1
      refine ⟨⟨rfl, rfl, rfl, Nat.le_of_ble_eq_true rfl⟩, ?_⟩
      rw [show rrR l nd w = ([], [], 3) by unfold rrR; rw [if_pos r, if_pos h1]]
      exact ⟨rfl, rfl, rfl, rfl⟩
    · replace h1 : ¬ (w < 0) := h1
      refine ⟨fun h2 => ?_, fun h2 => ?_⟩
      · replace h2 : ¬ (12 < w) := h2
        refine ⟨⟨by show (-9223372036854775808 : Int) ≤ (2 * w); omega, by show (2 * w) ≤ (9223372036854775807 : Int); omega⟩, ⟨by show (-9223372036854775808 : Int) ≤ (nd + (2 * w)); omega, by show (nd + (2 * w)) ≤ (9223372036854775807 : Int); omega⟩, fun h3 => ?_, fun h3 => ?_⟩
        · replace h3 : (l.length : Int) < (nd + (2 * w)) := h3
          refine ⟨⟨rfl, rfl, rfl, Nat.le_of_ble_eq_true rfl⟩, ?_⟩
          rw [show rrR l nd w = ([], [], 29) by unfold rrR; rw [if_pos r, if_neg h1, if_pos (.inr h3)]]
          exact ⟨rfl, rfl, rfl, rfl⟩
        · replace h3 : ¬ ((l.length : Int) < (nd + (2 * w))) := h3
          refine ⟨rfl, rfl, rfl, ⟨by show chkE l = 0; first | omega | assumption, by show 1 ≤ nd; first | omega | assumption, by show nd ≤ 12; first | omega | assumption, by show 0 ≤ w; first | omega | assumption, (fun s hs => by cases hs), by show (([]).length : Int) ≤ nd; first | omega | assumption | (simp only [List.length_cons, List.length_nil, List.length_append, List.length_take, List.length_drop, List.length_set, List.length_replicate]; omega), by omega, by show 0 ≤ (l.length : Int); first | omega | assumption⟩, ⟨rfl, rfl, rfl, Nat.le_of_ble_eq_true rfl⟩, ?_⟩
          rw [show rrR l nd w = cor l nd w (l.drop (0 : Int).toNat) [] by unfold rrR; rw [if_pos r, if_neg h1, if_neg (by omega)]; rfl]
          exact ⟨rfl, rfl, rfl, rfl⟩
      · replace h2 : 12 < w := h2
        refine ⟨⟨rfl, rfl, rfl, Nat.le_of_ble_eq_true rfl⟩, ?_⟩
        rw [show rrR l nd w = ([], [], 29) by unfold rrR; rw [if_pos r, if_neg h1, if_pos (.inl h2)]]
        exact ⟨rfl, rfl, rfl, rfl⟩
def CRRo : List (Nat × Con) := (28, pureC [.v (.sl (.cons (.int .i64) (.cons .str .nil))), .v (.int .i64), .v (.int .i64)] sRRo) :: CRco
theorem kRRo : Known Tryd.prog (En CRRo tys G6 QCo2) := kRco.add Tryd.func28 Tryd.call28 [.k, .o (.int .i64), .k] fun ds p v bs h hp => by
  unfold sRRo at h
  split at h <;> simp only [Option.some.injEq, Prod.mk.injEq, reduceCtorEq] at h
  obtain ⟨rfl, rfl, rfl⟩ := h
  exact bRRo _ _ _ hp
end Go.Proofs.YtakbedmeieeekaaDoor.S26

namespace Go.Proofs.YtakbedmeieeekaaDoor.S26
open Go Go.Proofs.YtakbedmeieeekaaDoor.Vc Go.Proofs
set_option maxRecDepth 100000
set_option linter.unusedVariables false

def sShx : List V → Option (Prop × V × List Blk)
  | [.int .i64 h, .str s] => some (True, .agg [.int .i64 (h), .str (s)], [])
  | _ => none
set_option maxHeartbeats 1000000 in
theorem bShx (h : Int) (s : List UInt8)  : bodyP (En CRRo tys G6 QCo2) Tryd.f30 [.k, .k] [.int .i64 h, .str s] (.agg [.int .i64 (h), .str (s)]) [] := by
  refine ⟨⟨rfl, rfl, rfl, Nat.le_of_ble_eq_true rfl⟩, ?_⟩
  exact ⟨rfl, rfl, rfl, rfl⟩
def CShx : List (Nat × Con) := (30, pureC [.v (.int .i64), .v .str] sShx) :: CRRo
theorem kShx : Known Tryd.prog (En CShx tys G6 QCo2) := kRRo.add Tryd.func30 Tryd.call30 [.k, .k] fun ds p v bs h hp => by
  unfold sShx at h
  split at h <;> simp only [Option.some.injEq, Prod.mk.injEq, reduceCtorEq] at h
  obtain ⟨rfl, rfl, rfl⟩ := h
  exact bShx _ _
def sSom : List V → Option (Prop × V × List Blk)
  | [.sl false (.cons (.int .i64) (.cons .str .nil)) l, .int .u16 s] => some (l.length ≤ 16 ∧ 0 ≤ s, .own (.cons (.int .i64) (.cons .str .nil)) 0, [.row true (.cons (.int .i64) (.cons .str .nil)) (smK l s l.length)])
  | _ => none
set_option maxHeartbeats 1000000 in
theorem bSom (l : List (Int × (List UInt8 × Unit))) (s : Int) (hp0 : l.length ≤ 16) (hp1 : 0 ≤ s) : bodyP (En CShx tys G6 QCo2) Tryd.f29 [.o (.cons (.int .i64) (.cons .str .nil))] [.sl false (.cons (.int .i64) (.cons .str .nil)) l, .int .u16 s] (.own (.cons (.int .i64) (.cons .str .nil)) 0) [.row true (.cons (.int .i64) (.cons .str .nil)) (smK l s l.length)] := by
  refine ⟨0, [(1, .k), (5, .o (.cons (.int .i64) (.cons .str .nil))), (8, .k), (9, .k), (10, .k)], fun nM vs H => ∃ (k : Nat), k ≤ l.length ∧ nM = l.length - k ∧ vs = [.int .u16 s, .own (.cons (.int .i64) (.cons .str .nil)) 0, .sl false (.cons (.int .i64) (.cons .str .nil)) l, .int .i64 (l.length : Int), .int .i64 (k : Int)] ∧ H = [.row true (.cons (.int .i64) (.cons .str .nil)) (smK l s k)], ⟨rfl, l.length, 0, by omega, by omega, rfl, rfl⟩, ?_⟩
  rintro nM vs H ⟨k, hc1_0, rfl, rfl, rfl⟩
  have hsl := smK_len l s k
  refine ⟨fun h0 => ?_, fun h0 => ?_⟩
  · replace h0 : (k : Int) < (l.length : Int) := h0
    have hk : k < l.length := by omega
    refine ⟨⟨by show (0 : Int) ≤ (k : Int); omega, by show (k : Int) < (l.length : Int); omega⟩, ⟨rfl, rfl, rfl, Nat.le_of_ble_eq_true rfl⟩, ⟨by show (0 : Int) ≤ (k : Int); omega, by show (k : Int) ≤ (16 : Int); omega⟩, .inr ⟨rfl, ?_⟩⟩
    refine ⟨fun h1 => ?_, fun h1 => ?_⟩
    · replace h1 : ((s / 2 ^ k) % 2) = 1 := h1
      refine ⟨rfl, ⟨rfl, rfl⟩, by show (smK l s k).length + ([((l.getD k (0, ([], ()))).1, ((l.getD k (0, ([], ()))).2).1, ())] : List (Int × (List UInt8 × Unit))).length ≤ 1000000000; simp only [List.length_cons, List.length_nil]; omega, ⟨by show (-9223372036854775808 : Int) ≤ ((k : Int) + 1); omega, by show ((k : Int) + 1) ≤ (9223372036854775807 : Int); omega⟩, ?_⟩
      first
      | exact ⟨rfl, l.length - (k + 1), by omega, k + 1, by omega, rfl, rfl, by rw [show smK l s (k + 1) = _ from if_pos (show s / 2 ^ k % 2 = 1 from h1)]; rfl⟩
      | exact ⟨rfl, l.length - (k + 1), by omega, k + 1, by omega, rfl, rfl, by rw [show smK l s (k + 1) = _ from if_neg (show ¬ s / 2 ^ k % 2 = 1 from h1)]; rfl⟩
    · replace h1 : ¬ (((s / 2 ^ k) % 2) = 1) := h1
      refine ⟨⟨by show (-9223372036854775808 : Int) ≤ ((k : Int) + 1); omega, by show ((k : Int) + 1) ≤ (9223372036854775807 : Int); omega⟩, ?_⟩
      first
      | exact ⟨rfl, l.length - (k + 1), by omega, k + 1, by omega, rfl, rfl, by rw [show smK l s (k + 1) = _ from if_pos (show s / 2 ^ k % 2 = 1 from h1)]; rfl⟩
      | exact ⟨rfl, l.length - (k + 1), by omega, k + 1, by omega, rfl, rfl, by rw [show smK l s (k + 1) = _ from if_neg (show ¬ s / 2 ^ k % 2 = 1 from h1)]; rfl⟩
  · replace h0 : ¬ ((k : Int) < (l.length : Int)) := h0
    rw [show l.length = k by omega]
    exact ⟨rfl, rfl, rfl, rfl⟩
def CSom : List (Nat × Con) := (29, pureC [.v (.sl (.cons (.int .i64) (.cons .str .nil))), .v (.int .u16)] sSom) :: CShx
theorem kSom : Known Tryd.prog (En CSom tys G6 QCo2) := kShx.add Tryd.func29 Tryd.call29 [.o (.cons (.int .i64) (.cons .str .nil))] fun ds p v bs h hp => by
  unfold sSom at h
  split at h <;> simp only [Option.some.injEq, Prod.mk.injEq, reduceCtorEq] at h
  obtain ⟨rfl, rfl, rfl⟩ := h
  exact bSom _ _ hp.1 hp.2
def sSml : List V → Option (Prop × V × List Blk)
  | [.agg [.str sec, .int .i64 nd, .sl false (.int .i64) hs, .str nz], .int .i64 n] => some (sec.length ≤ 1048576 ∧ hs.length ≤ 1048576, .b (smlP sec hs n), [])
  | _ => none
set_option maxHeartbeats 1000000 in
theorem bSml (sec : List UInt8) (nd : Int) (hs : List Int) (nz : List UInt8) (n : Int) (hp0 : sec.length ≤ 1048576) (hp1 : hs.length ≤ 1048576) : bodyP (En CSom tys G6 QCo2) Tryd.f11 [.k] [.agg [.str sec, .int .i64 nd, .sl false (.int .i64) hs, .str nz], .int .i64 n] (.b (smlP sec hs n)) [] := by
  refine ⟨fun h0 => ?_, fun h0 => ?_⟩
  · replace h0 : ¬ ((sec.length : Int) ≤ n) := h0
    refine ⟨fun h1 => ?_, fun h1 => ?_⟩
    · replace h1 : 4096 < (sec.length : Int) := h1
      refine ⟨fun h2 => ?_, fun h2 => ?_⟩
      · replace h2 : (sec.length : Int) ≤ 5000 := h2
        exact ⟨rfl, rfl, congrArg V.b (propext (by unfold smlP; constructor <;> intro g <;> first | omega | exact Bool.noConfusion g | (exfalso; omega))), rfl⟩
      · replace h2 : ¬ ((sec.length : Int) ≤ 5000) := h2
        exact ⟨rfl, rfl, congrArg V.b (propext (by unfold smlP; constructor <;> intro g <;> first | omega | exact Bool.noConfusion g | (exfalso; omega))), rfl⟩
    · replace h1 : ¬ (4096 < (sec.length : Int)) := h1
      exact ⟨rfl, rfl, congrArg V.b (propext (by unfold smlP; constructor <;> intro g <;> first | omega | exact Bool.noConfusion g | (exfalso; omega))), rfl⟩
  · replace h0 : (sec.length : Int) ≤ n := h0
    exact ⟨rfl, rfl, congrArg V.b (propext (by unfold smlP; constructor <;> intro g <;> first | omega | exact Bool.noConfusion g | (exfalso; omega))), rfl⟩
def CSml : List (Nat × Con) := (11, pureC [.v (.cons .str (.cons (.int .i64) (.cons (.sl (.int .i64)) (.cons .str .nil)))), .v (.int .i64)] sSml) :: CSom
theorem kSml : Known Tryd.prog (En CSml tys G6 QCo2) := kSom.add Tryd.func11 Tryd.call11 [.k] fun ds p v bs h hp => by
  unfold sSml at h
  split at h <;> simp only [Option.some.injEq, Prod.mk.injEq, reduceCtorEq] at h
  obtain ⟨rfl, rfl, rfl⟩ := h
  exact bSml _ _ _ _ _ hp.1 hp.2
end Go.Proofs.YtakbedmeieeekaaDoor.S26

namespace Go.Proofs.YtakbedmeieeekaaDoor.S26
open Go Go.Proofs.YtakbedmeieeekaaDoor.Vc Go.Proofs
set_option maxRecDepth 100000
set_option linter.unusedVariables false

def sSan : List V → Option (Prop × V × List Blk)
  | [] => some (True, .b True, [])
  | _ => none
set_option maxHeartbeats 8000000 in
theorem bSan   : bodyP (En CSml tys G6 QCo2 [1000001, 1000002]) Tryd.f12 [.k] [] (.b True) [] := by
  refine ⟨rfl, trivial, rfl, trivial, rfl, trivial, rfl, rfl, rfl, rfl, rfl, rfl, rfl, ⟨by show ([10, 20]).length ≤ 1048576; decide +kernel, by show ([0, 1, 4] : List Int).length ≤ 1048576; decide +kernel, by show ([1, 2]).length ≤ 1048576; decide +kernel⟩, by kernel_rfl, ⟨by show (0 : Int) ≤ 0; first | omega | decide +kernel, by show 0 < (([(0, ([11, 22]), ()), (1, ([8, 16]), ()), (4, ([15, 30]), ())] : List (Int × (List UInt8 × Unit))).length : Int); first | omega | decide +kernel⟩, ⟨by show (0 : Int) ≤ 2; first | omega | decide +kernel, by show 2 < (([(0, ([11, 22]), ()), (1, ([8, 16]), ()), (4, ([15, 30]), ())] : List (Int × (List UInt8 × Unit))).length : Int); first | omega | decide +kernel⟩, rfl, rfl, rfl, by show ([((([(0, ([11, 22]), ()), (1, ([8, 16]), ()), (4, ([15, 30]), ())] : List (Int × (List UInt8 × Unit))).getD 0 (0, ([], ()))).1, ((([(0, ([11, 22]), ()), (1, ([8, 16]), ()), (4, ([15, 30]), ())] : List (Int × (List UInt8 × Unit))).getD 0 (0, ([], ()))).2).1, ()), ((([(0, ([11, 22]), ()), (1, ([8, 16]), ()), (4, ([15, 30]), ())] : List (Int × (List UInt8 × Unit))).getD 2 (0, ([], ()))).1, ((([(0, ([11, 22]), ()), (1, ([8, 16]), ()), (4, ([15, 30]), ())] : List (Int × (List UInt8 × Unit))).getD 2 (0, ([], ()))).2).1, ())] : List (Int × (List UInt8 × Unit))).length ≤ 1048576; decide +kernel, ⟨by first | omega | decide +kernel, by first | omega | decide +kernel⟩, rfl, by show ((([(0, ([11, 22]), ()), (1, ([8, 16]), ()), (4, ([15, 30]), ())] : List (Int × (List UInt8 × Unit))).drop 2).take (([(0, ([11, 22]), ()), (1, ([8, 16]), ()), (4, ([15, 30]), ())] : List (Int × (List UInt8 × Unit))).length - 2)).length ≤ 1048576; decide +kernel, by kernel_rfl, ⟨by show (0 : Int) ≤ 0; first | omega | decide +kernel, by show 0 < (([(0, ([11, 22]), ()), (1, ([8, 16]), ()), (4, ([15, 30]), ())] : List (Int × (List UInt8 × Unit))).length : Int); first | omega | decide +kernel⟩, ⟨by show (0 : Int) ≤ 1; first | omega | decide +kernel, by show 1 < (([(0, ([11, 22]), ()), (1, ([8, 16]), ()), (4, ([15, 30]), ())] : List (Int × (List UInt8 × Unit))).length : Int); first | omega | decide +kernel⟩, rfl, trivial, rfl, rfl, rfl, rfl, by show ([((([(0, ([11, 22]), ()), (1, ([8, 16]), ()), (4, ([15, 30]), ())] : List (Int × (List UInt8 × Unit))).getD 0 (0, ([], ()))).1, ((([(0, ([11, 22]), ()), (1, ([8, 16]), ()), (4, ([15, 30]), ())] : List (Int × (List UInt8 × Unit))).getD 0 (0, ([], ()))).2).1, ()), ((([(0, ([11, 22]), ()), (1, ([8, 16]), ()), (4, ([15, 30]), ())] : List (Int × (List UInt8 × Unit))).getD 1 (0, ([], ()))).1, ((([(0, ([11, 22]), ()), (1, ([8, 16]), ()), (4, ([15, 30]), ())] : List (Int × (List UInt8 × Unit))).getD 1 (0, ([], ()))).2).1, ()), (4, ([15, 31]), ())] : List (Int × (List UInt8 × Unit))).length ≤ 1048576; decide +kernel, ⟨by first | omega | decide +kernel, by first | omega | decide +kernel⟩, rfl, rfl, by show ((([(0, ([11, 22]), ()), (1, ([8, 16]), ()), (4, ([15, 30]), ())] : List (Int × (List UInt8 × Unit))).drop 0).take (2 - 0)).length ≤ 1048576; decide +kernel, ⟨rfl, rfl, rfl, Nat.le_of_ble_eq_true rfl⟩, rfl, rfl, by show ([((([(0, ([11, 22]), ()), (1, ([8, 16]), ()), (4, ([15, 30]), ())] : List (Int × (List UInt8 × Unit))).getD 0 (0, ([], ()))).1, ((([(0, ([11, 22]), ()), (1, ([8, 16]), ()), (4, ([15, 30]), ())] : List (Int × (List UInt8 × Unit))).getD 0 (0, ([], ()))).2).1, ()), ((([(0, ([11, 22]), ()), (1, ([8, 16]), ()), (4, ([15, 30]), ())] : List (Int × (List UInt8 × Unit))).getD 1 (0, ([], ()))).1, ((([(0, ([11, 22]), ()), (1, ([8, 16]), ()), (4, ([15, 30]), ())] : List (Int × (List UInt8 × Unit))).getD 1 (0, ([], ()))).2).1, ()), (4, ([15, 31]), ())] : List (Int × (List UInt8 × Unit))).length ≤ 1048576; decide +kernel, rfl, trivial, rfl, ⟨rfl, rfl⟩, by show ([((([(0, ([11, 22]), ()), (1, ([8, 16]), ()), (4, ([15, 30]), ())] : List (Int × (List UInt8 × Unit))).getD 0 (0, ([], ()))).1, ((([(0, ([11, 22]), ()), (1, ([8, 16]), ()), (4, ([15, 30]), ())] : List (Int × (List UInt8 × Unit))).getD 0 (0, ([], ()))).2).1, ()), ((([(0, ([11, 22]), ()), (1, ([8, 16]), ()), (4, ([15, 30]), ())] : List (Int × (List UInt8 × Unit))).getD 1 (0, ([], ()))).1, ((([(0, ([11, 22]), ()), (1, ([8, 16]), ()), (4, ([15, 30]), ())] : List (Int × (List UInt8 × Unit))).getD 1 (0, ([], ()))).2).1, ()), (4, ([15, 31]), ())] : List (Int × (List UInt8 × Unit))).length + ([(5, ([12, 24]), ())] : List (Int × (List UInt8 × Unit))).length ≤ 1000000000; simp only [List.length_cons, List.length_nil]; first | omega | decide +kernel, rfl, rfl, by show (([((([(0, ([11, 22]), ()), (1, ([8, 16]), ()), (4, ([15, 30]), ())] : List (Int × (List UInt8 × Unit))).getD 0 (0, ([], ()))).1, ((([(0, ([11, 22]), ()), (1, ([8, 16]), ()), (4, ([15, 30]), ())] : List (Int × (List UInt8 × Unit))).getD 0 (0, ([], ()))).2).1, ()), ((([(0, ([11, 22]), ()), (1, ([8, 16]), ()), (4, ([15, 30]), ())] : List (Int × (List UInt8 × Unit))).getD 1 (0, ([], ()))).1, ((([(0, ([11, 22]), ()), (1, ([8, 16]), ()), (4, ([15, 30]), ())] : List (Int × (List UInt8 × Unit))).getD 1 (0, ([], ()))).2).1, ()), (4, ([15, 31]), ())] : List (Int × (List UInt8 × Unit))) ++ ([(5, ([12, 24]), ())] : List (Int × (List UInt8 × Unit)))).length ≤ 1048576; decide +kernel, ⟨by first | omega | decide +kernel, by first | omega | decide +kernel⟩, rfl, ⟨by show ((([(0, ([11, 22]), ()), (1, ([8, 16]), ()), (4, ([15, 30]), ())] : List (Int × (List UInt8 × Unit))).drop 0).take (1 - 0)).length ≤ 1048576; decide +kernel, by show ([0, 0]).length ≤ 1048576; decide +kernel⟩, rfl, ⟨by show ([]).length ≤ 1048576; decide +kernel, by show ([0, 0]).length ≤ 1048576; decide +kernel⟩, ⟨by first | omega | decide +kernel, by first | omega | decide +kernel⟩, rfl, ⟨by show ((([(0, ([11, 22]), ()), (1, ([8, 16]), ()), (4, ([15, 30]), ())] : List (Int × (List UInt8 × Unit))).drop 0).take (2 - 0)).length ≤ 1048576; decide +kernel, by show ([0, 0]).length ≤ 1048576; decide +kernel⟩, by kernel_rfl, ⟨by show (0 : Int) ≤ 0; first | omega | decide +kernel, by show 0 < (([(0, ([11, 22]), ()), (1, ([8, 16]), ()), (4, ([15, 30]), ())] : List (Int × (List UInt8 × Unit))).length : Int); first | omega | decide +kernel⟩, rfl, trivial, rfl, rfl, ⟨by show (((([(0, ([11, 22]), ()), (1, ([8, 16]), ()), (4, ([15, 30]), ())] : List (Int × (List UInt8 × Unit))).getD 0 (0, ([], ()))).2).1).length ≤ 1048576; decide +kernel, by show ([1, 1]).length ≤ 1048576; decide +kernel⟩, ⟨rfl, rfl, rfl, Nat.le_of_ble_eq_true rfl⟩, fun h0 => ?_, fun h0 => absurd (show (splE ([10, 20]) 2 ([0, 1, 4] : List Int) ([1, 2])) = 0 by decide +kernel) h0⟩
  refine ⟨fun h1 => ?_, fun h1 => absurd (show (joE ([((([(0, ([11, 22]), ()), (1, ([8, 16]), ()), (4, ([15, 30]), ())] : List (Int × (List UInt8 × Unit))).getD 0 (0, ([], ()))).1, ((([(0, ([11, 22]), ()), (1, ([8, 16]), ()), (4, ([15, 30]), ())] : List (Int × (List UInt8 × Unit))).getD 0 (0, ([], ()))).2).1, ()), ((([(0, ([11, 22]), ()), (1, ([8, 16]), ()), (4, ([15, 30]), ())] : List (Int × (List UInt8 × Unit))).getD 2 (0, ([], ()))).1, ((([(0, ([11, 22]), ()), (1, ([8, 16]), ()), (4, ([15, 30]), ())] : List (Int × (List UInt8 × Unit))).getD 2 (0, ([], ()))).2).1, ())] : List (Int × (List UInt8 × Unit))) 2) = 0 by decide +kernel) h1⟩
  refine ⟨fun h2 => ?_, fun h2 => absurd (show (exE ((([(0, ([11, 22]), ()), (1, ([8, 16]), ()), (4, ([15, 30]), ())] : List (Int × (List UInt8 × Unit))).drop 0).take (2 - 0)) 2 2) = 0 by decide +kernel) h2⟩
  refine ⟨fun h3 => ?_, fun h3 => absurd (show (rbE (([((([(0, ([11, 22]), ()), (1, ([8, 16]), ()), (4, ([15, 30]), ())] : List (Int × (List UInt8 × Unit))).getD 0 (0, ([], ()))).1, ((([(0, ([11, 22]), ()), (1, ([8, 16]), ()), (4, ([15, 30]), ())] : List (Int × (List UInt8 × Unit))).getD 0 (0, ([], ()))).2).1, ()), ((([(0, ([11, 22]), ()), (1, ([8, 16]), ()), (4, ([15, 30]), ())] : List (Int × (List UInt8 × Unit))).getD 1 (0, ([], ()))).1, ((([(0, ([11, 22]), ()), (1, ([8, 16]), ()), (4, ([15, 30]), ())] : List (Int × (List UInt8 × Unit))).getD 1 (0, ([], ()))).2).1, ()), (4, ([15, 31]), ())] : List (Int × (List UInt8 × Unit))) ++ ([(5, ([12, 24]), ())] : List (Int × (List UInt8 × Unit)))) 2 1) = 0 by decide +kernel) h3⟩
  refine ⟨fun h4 => ?_, fun h4 => absurd (show (adE (((([(0, ([11, 22]), ()), (1, ([8, 16]), ()), (4, ([15, 30]), ())] : List (Int × (List UInt8 × Unit))).getD 0 (0, ([], ()))).1), (((([(0, ([11, 22]), ()), (1, ([8, 16]), ()), (4, ([15, 30]), ())] : List (Int × (List UInt8 × Unit))).getD 0 (0, ([], ()))).2).1), ()) (0, ([1, 1]), ())) = 0 by decide +kernel) h4⟩
  refine ⟨fun h5 => ?_, fun h5 => absurd (show (joE ((([(0, ([11, 22]), ()), (1, ([8, 16]), ()), (4, ([15, 30]), ())] : List (Int × (List UInt8 × Unit))).drop 2).take (([(0, ([11, 22]), ()), (1, ([8, 16]), ()), (4, ([15, 30]), ())] : List (Int × (List UInt8 × Unit))).length - 2)) 2) = 29 by decide +kernel) h5⟩
  refine ⟨fun h6 => ?_, fun h6 => absurd (show (joE ([((([(0, ([11, 22]), ()), (1, ([8, 16]), ()), (4, ([15, 30]), ())] : List (Int × (List UInt8 × Unit))).getD 0 (0, ([], ()))).1, ((([(0, ([11, 22]), ()), (1, ([8, 16]), ()), (4, ([15, 30]), ())] : List (Int × (List UInt8 × Unit))).getD 0 (0, ([], ()))).2).1, ()), ((([(0, ([11, 22]), ()), (1, ([8, 16]), ()), (4, ([15, 30]), ())] : List (Int × (List UInt8 × Unit))).getD 1 (0, ([], ()))).1, ((([(0, ([11, 22]), ()), (1, ([8, 16]), ()), (4, ([15, 30]), ())] : List (Int × (List UInt8 × Unit))).getD 1 (0, ([], ()))).2).1, ()), (4, ([15, 31]), ())] : List (Int × (List UInt8 × Unit))) 2) = 14 by decide +kernel) h6⟩
  refine ⟨by kernel_rfl, ⟨by show (splL ([10, 20]) 2 ([0, 1, 4] : List Int) ([1, 2])).length ≤ 1048576; decide +kernel, by show ([(0, ([11, 22]), ()), (1, ([8, 16]), ()), (4, ([15, 30]), ())] : List (Int × (List UInt8 × Unit))).length ≤ 1048576; decide +kernel⟩, fun h7 => ?_, fun h7 => absurd (show (splL ([10, 20]) 2 ([0, 1, 4] : List Int) ([1, 2])) = ([(0, ([11, 22]), ()), (1, ([8, 16]), ()), (4, ([15, 30]), ())] : List (Int × (List UInt8 × Unit))) by decide +kernel) h7⟩
  refine ⟨fun h8 => ?_, fun h8 => absurd (show (splL ([10, 20]) 2 ([0, 1, 4] : List Int) ([1, 2])) = ([(0, ([11, 22]), ()), (1, ([8, 16]), ()), (4, ([15, 30]), ())] : List (Int × (List UInt8 × Unit))) by decide +kernel) h8⟩
  refine ⟨fun h9 => ?_, fun h9 => absurd (show (splL ([10, 20]) 2 ([0, 1, 4] : List Int) ([1, 2])) = ([(0, ([11, 22]), ()), (1, ([8, 16]), ()), (4, ([15, 30]), ())] : List (Int × (List UInt8 × Unit))) by decide +kernel) h9⟩
  refine ⟨fun h10 => ?_, fun h10 => absurd (show (joS ([((([(0, ([11, 22]), ()), (1, ([8, 16]), ()), (4, ([15, 30]), ())] : List (Int × (List UInt8 × Unit))).getD 0 (0, ([], ()))).1, ((([(0, ([11, 22]), ()), (1, ([8, 16]), ()), (4, ([15, 30]), ())] : List (Int × (List UInt8 × Unit))).getD 0 (0, ([], ()))).2).1, ()), ((([(0, ([11, 22]), ()), (1, ([8, 16]), ()), (4, ([15, 30]), ())] : List (Int × (List UInt8 × Unit))).getD 2 (0, ([], ()))).1, ((([(0, ([11, 22]), ()), (1, ([8, 16]), ()), (4, ([15, 30]), ())] : List (Int × (List UInt8 × Unit))).getD 2 (0, ([], ()))).2).1, ())] : List (Int × (List UInt8 × Unit))) 2 0) = ([10, 20]) by decide +kernel) h10⟩
  refine ⟨fun h11 => ?_, fun h11 => absurd (show (joS ([((([(0, ([11, 22]), ()), (1, ([8, 16]), ()), (4, ([15, 30]), ())] : List (Int × (List UInt8 × Unit))).getD 0 (0, ([], ()))).1, ((([(0, ([11, 22]), ()), (1, ([8, 16]), ()), (4, ([15, 30]), ())] : List (Int × (List UInt8 × Unit))).getD 0 (0, ([], ()))).2).1, ()), ((([(0, ([11, 22]), ()), (1, ([8, 16]), ()), (4, ([15, 30]), ())] : List (Int × (List UInt8 × Unit))).getD 2 (0, ([], ()))).1, ((([(0, ([11, 22]), ()), (1, ([8, 16]), ()), (4, ([15, 30]), ())] : List (Int × (List UInt8 × Unit))).getD 2 (0, ([], ()))).2).1, ())] : List (Int × (List UInt8 × Unit))) 2 0) = ([10, 20]) by decide +kernel) h11⟩
  refine ⟨rfl, trivial, fun h12 => ?_, fun h12 => absurd (show (joS ([((([(0, ([11, 22]), ()), (1, ([8, 16]), ()), (4, ([15, 30]), ())] : List (Int × (List UInt8 × Unit))).getD 0 (0, ([], ()))).1, ((([(0, ([11, 22]), ()), (1, ([8, 16]), ()), (4, ([15, 30]), ())] : List (Int × (List UInt8 × Unit))).getD 0 (0, ([], ()))).2).1, ()), ((([(0, ([11, 22]), ()), (1, ([8, 16]), ()), (4, ([15, 30]), ())] : List (Int × (List UInt8 × Unit))).getD 2 (0, ([], ()))).1, ((([(0, ([11, 22]), ()), (1, ([8, 16]), ()), (4, ([15, 30]), ())] : List (Int × (List UInt8 × Unit))).getD 2 (0, ([], ()))).2).1, ())] : List (Int × (List UInt8 × Unit))) 2 0) = ([10, 20]) by decide +kernel) h12⟩
  refine ⟨fun h13 => ?_, fun h13 => absurd (show (joS ([((([(0, ([11, 22]), ()), (1, ([8, 16]), ()), (4, ([15, 30]), ())] : List (Int × (List UInt8 × Unit))).getD 0 (0, ([], ()))).1, ((([(0, ([11, 22]), ()), (1, ([8, 16]), ()), (4, ([15, 30]), ())] : List (Int × (List UInt8 × Unit))).getD 0 (0, ([], ()))).2).1, ()), ((([(0, ([11, 22]), ()), (1, ([8, 16]), ()), (4, ([15, 30]), ())] : List (Int × (List UInt8 × Unit))).getD 2 (0, ([], ()))).1, ((([(0, ([11, 22]), ()), (1, ([8, 16]), ()), (4, ([15, 30]), ())] : List (Int × (List UInt8 × Unit))).getD 2 (0, ([], ()))).2).1, ())] : List (Int × (List UInt8 × Unit))) 2 0) = ([10, 20]) by decide +kernel) h13⟩
  refine ⟨fun h14 => ?_, fun h14 => absurd (show ((exH ((([(0, ([11, 22]), ()), (1, ([8, 16]), ()), (4, ([15, 30]), ())] : List (Int × (List UInt8 × Unit))).drop 0).take (2 - 0)) 2 2) = 2 ∧ ((exS ((([(0, ([11, 22]), ()), (1, ([8, 16]), ()), (4, ([15, 30]), ())] : List (Int × (List UInt8 × Unit))).drop 0).take (2 - 0)) 2 2) = ([9, 18]) ∧ True)) by decide +kernel) h14⟩
  refine ⟨fun h15 => ?_, fun h15 => absurd (show ((exH ((([(0, ([11, 22]), ()), (1, ([8, 16]), ()), (4, ([15, 30]), ())] : List (Int × (List UInt8 × Unit))).drop 0).take (2 - 0)) 2 2) = 2 ∧ ((exS ((([(0, ([11, 22]), ()), (1, ([8, 16]), ()), (4, ([15, 30]), ())] : List (Int × (List UInt8 × Unit))).drop 0).take (2 - 0)) 2 2) = ([9, 18]) ∧ True)) by decide +kernel) h15⟩
  refine ⟨fun h16 => ?_, fun h16 => absurd (show ((exH ((([(0, ([11, 22]), ()), (1, ([8, 16]), ()), (4, ([15, 30]), ())] : List (Int × (List UInt8 × Unit))).drop 0).take (2 - 0)) 2 2) = 2 ∧ ((exS ((([(0, ([11, 22]), ()), (1, ([8, 16]), ()), (4, ([15, 30]), ())] : List (Int × (List UInt8 × Unit))).drop 0).take (2 - 0)) 2 2) = ([9, 18]) ∧ True)) by decide +kernel) h16⟩
  refine ⟨fun h17 => ?_, fun h17 => absurd (show (rbS (([((([(0, ([11, 22]), ()), (1, ([8, 16]), ()), (4, ([15, 30]), ())] : List (Int × (List UInt8 × Unit))).getD 0 (0, ([], ()))).1, ((([(0, ([11, 22]), ()), (1, ([8, 16]), ()), (4, ([15, 30]), ())] : List (Int × (List UInt8 × Unit))).getD 0 (0, ([], ()))).2).1, ()), ((([(0, ([11, 22]), ()), (1, ([8, 16]), ()), (4, ([15, 30]), ())] : List (Int × (List UInt8 × Unit))).getD 1 (0, ([], ()))).1, ((([(0, ([11, 22]), ()), (1, ([8, 16]), ()), (4, ([15, 30]), ())] : List (Int × (List UInt8 × Unit))).getD 1 (0, ([], ()))).2).1, ()), (4, ([15, 31]), ())] : List (Int × (List UInt8 × Unit))) ++ ([(5, ([12, 24]), ())] : List (Int × (List UInt8 × Unit)))) 2 1) = ([10, 20]) by decide +kernel) h17⟩
  refine ⟨fun h18 => ?_, fun h18 => absurd (show (rbS (([((([(0, ([11, 22]), ()), (1, ([8, 16]), ()), (4, ([15, 30]), ())] : List (Int × (List UInt8 × Unit))).getD 0 (0, ([], ()))).1, ((([(0, ([11, 22]), ()), (1, ([8, 16]), ()), (4, ([15, 30]), ())] : List (Int × (List UInt8 × Unit))).getD 0 (0, ([], ()))).2).1, ()), ((([(0, ([11, 22]), ()), (1, ([8, 16]), ()), (4, ([15, 30]), ())] : List (Int × (List UInt8 × Unit))).getD 1 (0, ([], ()))).1, ((([(0, ([11, 22]), ()), (1, ([8, 16]), ()), (4, ([15, 30]), ())] : List (Int × (List UInt8 × Unit))).getD 1 (0, ([], ()))).2).1, ()), (4, ([15, 31]), ())] : List (Int × (List UInt8 × Unit))) ++ ([(5, ([12, 24]), ())] : List (Int × (List UInt8 × Unit)))) 2 1) = ([10, 20]) by decide +kernel) h18⟩
  refine ⟨fun h19 => ?_, fun h19 => absurd (show (rbS (([((([(0, ([11, 22]), ()), (1, ([8, 16]), ()), (4, ([15, 30]), ())] : List (Int × (List UInt8 × Unit))).getD 0 (0, ([], ()))).1, ((([(0, ([11, 22]), ()), (1, ([8, 16]), ()), (4, ([15, 30]), ())] : List (Int × (List UInt8 × Unit))).getD 0 (0, ([], ()))).2).1, ()), ((([(0, ([11, 22]), ()), (1, ([8, 16]), ()), (4, ([15, 30]), ())] : List (Int × (List UInt8 × Unit))).getD 1 (0, ([], ()))).1, ((([(0, ([11, 22]), ()), (1, ([8, 16]), ()), (4, ([15, 30]), ())] : List (Int × (List UInt8 × Unit))).getD 1 (0, ([], ()))).2).1, ()), (4, ([15, 31]), ())] : List (Int × (List UInt8 × Unit))) ++ ([(5, ([12, 24]), ())] : List (Int × (List UInt8 × Unit)))) 2 1) = ([10, 20]) by decide +kernel) h19⟩
  refine ⟨fun h20 => ?_, fun h20 => absurd (show (rbS (([((([(0, ([11, 22]), ()), (1, ([8, 16]), ()), (4, ([15, 30]), ())] : List (Int × (List UInt8 × Unit))).getD 0 (0, ([], ()))).1, ((([(0, ([11, 22]), ()), (1, ([8, 16]), ()), (4, ([15, 30]), ())] : List (Int × (List UInt8 × Unit))).getD 0 (0, ([], ()))).2).1, ()), ((([(0, ([11, 22]), ()), (1, ([8, 16]), ()), (4, ([15, 30]), ())] : List (Int × (List UInt8 × Unit))).getD 1 (0, ([], ()))).1, ((([(0, ([11, 22]), ()), (1, ([8, 16]), ()), (4, ([15, 30]), ())] : List (Int × (List UInt8 × Unit))).getD 1 (0, ([], ()))).2).1, ()), (4, ([15, 31]), ())] : List (Int × (List UInt8 × Unit))) ++ ([(5, ([12, 24]), ())] : List (Int × (List UInt8 × Unit)))) 2 1) = ([10, 20]) by decide +kernel) h20⟩
  refine ⟨fun h21 => ?_, fun h21 => absurd (show (((rbH (([((([(0, ([11, 22]), ()), (1, ([8, 16]), ()), (4, ([15, 30]), ())] : List (Int × (List UInt8 × Unit))).getD 0 (0, ([], ()))).1, ((([(0, ([11, 22]), ()), (1, ([8, 16]), ()), (4, ([15, 30]), ())] : List (Int × (List UInt8 × Unit))).getD 0 (0, ([], ()))).2).1, ()), ((([(0, ([11, 22]), ()), (1, ([8, 16]), ()), (4, ([15, 30]), ())] : List (Int × (List UInt8 × Unit))).getD 1 (0, ([], ()))).1, ((([(0, ([11, 22]), ()), (1, ([8, 16]), ()), (4, ([15, 30]), ())] : List (Int × (List UInt8 × Unit))).getD 1 (0, ([], ()))).2).1, ()), (4, ([15, 31]), ())] : List (Int × (List UInt8 × Unit))) ++ ([(5, ([12, 24]), ())] : List (Int × (List UInt8 × Unit)))) 2 1).length : Nat) : Int) = 1 by decide +kernel) h21⟩
  refine ⟨fun h22 => ?_, fun h22 => absurd (show (((rbH (([((([(0, ([11, 22]), ()), (1, ([8, 16]), ()), (4, ([15, 30]), ())] : List (Int × (List UInt8 × Unit))).getD 0 (0, ([], ()))).1, ((([(0, ([11, 22]), ()), (1, ([8, 16]), ()), (4, ([15, 30]), ())] : List (Int × (List UInt8 × Unit))).getD 0 (0, ([], ()))).2).1, ()), ((([(0, ([11, 22]), ()), (1, ([8, 16]), ()), (4, ([15, 30]), ())] : List (Int × (List UInt8 × Unit))).getD 1 (0, ([], ()))).1, ((([(0, ([11, 22]), ()), (1, ([8, 16]), ()), (4, ([15, 30]), ())] : List (Int × (List UInt8 × Unit))).getD 1 (0, ([], ()))).2).1, ()), (4, ([15, 31]), ())] : List (Int × (List UInt8 × Unit))) ++ ([(5, ([12, 24]), ())] : List (Int × (List UInt8 × Unit)))) 2 1).length : Nat) : Int) = 1 by decide +kernel) h22⟩
  refine ⟨rfl, trivial, fun h23 => ?_, fun h23 => absurd (show (((rbH (([((([(0, ([11, 22]), ()), (1, ([8, 16]), ()), (4, ([15, 30]), ())] : List (Int × (List UInt8 × Unit))).getD 0 (0, ([], ()))).1, ((([(0, ([11, 22]), ()), (1, ([8, 16]), ()), (4, ([15, 30]), ())] : List (Int × (List UInt8 × Unit))).getD 0 (0, ([], ()))).2).1, ()), ((([(0, ([11, 22]), ()), (1, ([8, 16]), ()), (4, ([15, 30]), ())] : List (Int × (List UInt8 × Unit))).getD 1 (0, ([], ()))).1, ((([(0, ([11, 22]), ()), (1, ([8, 16]), ()), (4, ([15, 30]), ())] : List (Int × (List UInt8 × Unit))).getD 1 (0, ([], ()))).2).1, ()), (4, ([15, 31]), ())] : List (Int × (List UInt8 × Unit))) ++ ([(5, ([12, 24]), ())] : List (Int × (List UInt8 × Unit)))) 2 1).length : Nat) : Int) = 1 by decide +kernel) h23⟩
  refine ⟨fun h24 => ?_, fun h24 => absurd (show (((rbH (([((([(0, ([11, 22]), ()), (1, ([8, 16]), ()), (4, ([15, 30]), ())] : List (Int × (List UInt8 × Unit))).getD 0 (0, ([], ()))).1, ((([(0, ([11, 22]), ()), (1, ([8, 16]), ()), (4, ([15, 30]), ())] : List (Int × (List UInt8 × Unit))).getD 0 (0, ([], ()))).2).1, ()), ((([(0, ([11, 22]), ()), (1, ([8, 16]), ()), (4, ([15, 30]), ())] : List (Int × (List UInt8 × Unit))).getD 1 (0, ([], ()))).1, ((([(0, ([11, 22]), ()), (1, ([8, 16]), ()), (4, ([15, 30]), ())] : List (Int × (List UInt8 × Unit))).getD 1 (0, ([], ()))).2).1, ()), (4, ([15, 31]), ())] : List (Int × (List UInt8 × Unit))) ++ ([(5, ([12, 24]), ())] : List (Int × (List UInt8 × Unit)))) 2 1).length : Nat) : Int) = 1 by decide +kernel) h24⟩
  refine ⟨by kernel_rfl, fun h25 => ?_, fun h25 => absurd (show (rbE ([((([(0, ([11, 22]), ()), (1, ([8, 16]), ()), (4, ([15, 30]), ())] : List (Int × (List UInt8 × Unit))).getD 0 (0, ([], ()))).1, ((([(0, ([11, 22]), ()), (1, ([8, 16]), ()), (4, ([15, 30]), ())] : List (Int × (List UInt8 × Unit))).getD 0 (0, ([], ()))).2).1, ()), ((([(0, ([11, 22]), ()), (1, ([8, 16]), ()), (4, ([15, 30]), ())] : List (Int × (List UInt8 × Unit))).getD 1 (0, ([], ()))).1, ((([(0, ([11, 22]), ()), (1, ([8, 16]), ()), (4, ([15, 30]), ())] : List (Int × (List UInt8 × Unit))).getD 1 (0, ([], ()))).2).1, ()), (4, ([15, 31]), ())] : List (Int × (List UInt8 × Unit))) 2 1) = 29 by decide +kernel) h25⟩
  refine ⟨fun h26 => ?_, fun h26 => absurd (show (rbE ([((([(0, ([11, 22]), ()), (1, ([8, 16]), ()), (4, ([15, 30]), ())] : List (Int × (List UInt8 × Unit))).getD 0 (0, ([], ()))).1, ((([(0, ([11, 22]), ()), (1, ([8, 16]), ()), (4, ([15, 30]), ())] : List (Int × (List UInt8 × Unit))).getD 0 (0, ([], ()))).2).1, ()), ((([(0, ([11, 22]), ()), (1, ([8, 16]), ()), (4, ([15, 30]), ())] : List (Int × (List UInt8 × Unit))).getD 1 (0, ([], ()))).1, ((([(0, ([11, 22]), ()), (1, ([8, 16]), ()), (4, ([15, 30]), ())] : List (Int × (List UInt8 × Unit))).getD 1 (0, ([], ()))).2).1, ()), (4, ([15, 31]), ())] : List (Int × (List UInt8 × Unit))) 2 1) = 29 by decide +kernel) h26⟩
  refine ⟨fun h27 => ?_, fun h27 => absurd (show ((adH (((([(0, ([11, 22]), ()), (1, ([8, 16]), ()), (4, ([15, 30]), ())] : List (Int × (List UInt8 × Unit))).getD 0 (0, ([], ()))).1), (((([(0, ([11, 22]), ()), (1, ([8, 16]), ()), (4, ([15, 30]), ())] : List (Int × (List UInt8 × Unit))).getD 0 (0, ([], ()))).2).1), ()) (0, ([1, 1]), ())) = 0 ∧ ((adS (((([(0, ([11, 22]), ()), (1, ([8, 16]), ()), (4, ([15, 30]), ())] : List (Int × (List UInt8 × Unit))).getD 0 (0, ([], ()))).1), (((([(0, ([11, 22]), ()), (1, ([8, 16]), ()), (4, ([15, 30]), ())] : List (Int × (List UInt8 × Unit))).getD 0 (0, ([], ()))).2).1), ()) (0, ([1, 1]), ())) = ([10, 23]) ∧ True)) by decide +kernel) h27⟩
  refine ⟨fun h28 => ?_, fun h28 => absurd (show ((adH (((([(0, ([11, 22]), ()), (1, ([8, 16]), ()), (4, ([15, 30]), ())] : List (Int × (List UInt8 × Unit))).getD 0 (0, ([], ()))).1), (((([(0, ([11, 22]), ()), (1, ([8, 16]), ()), (4, ([15, 30]), ())] : List (Int × (List UInt8 × Unit))).getD 0 (0, ([], ()))).2).1), ()) (0, ([1, 1]), ())) = 0 ∧ ((adS (((([(0, ([11, 22]), ()), (1, ([8, 16]), ()), (4, ([15, 30]), ())] : List (Int × (List UInt8 × Unit))).getD 0 (0, ([], ()))).1), (((([(0, ([11, 22]), ()), (1, ([8, 16]), ()), (4, ([15, 30]), ())] : List (Int × (List UInt8 × Unit))).getD 0 (0, ([], ()))).2).1), ()) (0, ([1, 1]), ())) = ([10, 23]) ∧ True)) by decide +kernel) h28⟩
  refine ⟨⟨by show (0 : Int) ≤ 0; first | omega | decide +kernel, by show 0 < ((rbH (([((([(0, ([11, 22]), ()), (1, ([8, 16]), ()), (4, ([15, 30]), ())] : List (Int × (List UInt8 × Unit))).getD 0 (0, ([], ()))).1, ((([(0, ([11, 22]), ()), (1, ([8, 16]), ()), (4, ([15, 30]), ())] : List (Int × (List UInt8 × Unit))).getD 0 (0, ([], ()))).2).1, ()), ((([(0, ([11, 22]), ()), (1, ([8, 16]), ()), (4, ([15, 30]), ())] : List (Int × (List UInt8 × Unit))).getD 1 (0, ([], ()))).1, ((([(0, ([11, 22]), ()), (1, ([8, 16]), ()), (4, ([15, 30]), ())] : List (Int × (List UInt8 × Unit))).getD 1 (0, ([], ()))).2).1, ()), (4, ([15, 31]), ())] : List (Int × (List UInt8 × Unit))) ++ ([(5, ([12, 24]), ())] : List (Int × (List UInt8 × Unit)))) 2 1).length : Int); first | omega | decide +kernel⟩, fun h29 => ?_, fun h29 => absurd (show ((adH (((([(0, ([11, 22]), ()), (1, ([8, 16]), ()), (4, ([15, 30]), ())] : List (Int × (List UInt8 × Unit))).getD 0 (0, ([], ()))).1), (((([(0, ([11, 22]), ()), (1, ([8, 16]), ()), (4, ([15, 30]), ())] : List (Int × (List UInt8 × Unit))).getD 0 (0, ([], ()))).2).1), ()) (0, ([1, 1]), ())) = 0 ∧ ((adS (((([(0, ([11, 22]), ()), (1, ([8, 16]), ()), (4, ([15, 30]), ())] : List (Int × (List UInt8 × Unit))).getD 0 (0, ([], ()))).1), (((([(0, ([11, 22]), ()), (1, ([8, 16]), ()), (4, ([15, 30]), ())] : List (Int × (List UInt8 × Unit))).getD 0 (0, ([], ()))).2).1), ()) (0, ([1, 1]), ())) = ([10, 23]) ∧ True)) by decide +kernel) h29⟩
  refine ⟨fun h30 => ?_, fun h30 => absurd (show ((adH (((([(0, ([11, 22]), ()), (1, ([8, 16]), ()), (4, ([15, 30]), ())] : List (Int × (List UInt8 × Unit))).getD 0 (0, ([], ()))).1), (((([(0, ([11, 22]), ()), (1, ([8, 16]), ()), (4, ([15, 30]), ())] : List (Int × (List UInt8 × Unit))).getD 0 (0, ([], ()))).2).1), ()) (0, ([1, 1]), ())) = 0 ∧ ((adS (((([(0, ([11, 22]), ()), (1, ([8, 16]), ()), (4, ([15, 30]), ())] : List (Int × (List UInt8 × Unit))).getD 0 (0, ([], ()))).1), (((([(0, ([11, 22]), ()), (1, ([8, 16]), ()), (4, ([15, 30]), ())] : List (Int × (List UInt8 × Unit))).getD 0 (0, ([], ()))).2).1), ()) (0, ([1, 1]), ())) = ([10, 23]) ∧ True)) by decide +kernel) h30⟩
  refine ⟨fun h31 => ?_, fun h31 => absurd (show ((adH (((([(0, ([11, 22]), ()), (1, ([8, 16]), ()), (4, ([15, 30]), ())] : List (Int × (List UInt8 × Unit))).getD 0 (0, ([], ()))).1), (((([(0, ([11, 22]), ()), (1, ([8, 16]), ()), (4, ([15, 30]), ())] : List (Int × (List UInt8 × Unit))).getD 0 (0, ([], ()))).2).1), ()) (0, ([1, 1]), ())) = 0 ∧ ((adS (((([(0, ([11, 22]), ()), (1, ([8, 16]), ()), (4, ([15, 30]), ())] : List (Int × (List UInt8 × Unit))).getD 0 (0, ([], ()))).1), (((([(0, ([11, 22]), ()), (1, ([8, 16]), ()), (4, ([15, 30]), ())] : List (Int × (List UInt8 × Unit))).getD 0 (0, ([], ()))).2).1), ()) (0, ([1, 1]), ())) = ([10, 23]) ∧ True)) by decide +kernel) h31⟩
  refine ⟨fun h32 => ?_, fun h32 => absurd (show ((rbH (([((([(0, ([11, 22]), ()), (1, ([8, 16]), ()), (4, ([15, 30]), ())] : List (Int × (List UInt8 × Unit))).getD 0 (0, ([], ()))).1, ((([(0, ([11, 22]), ()), (1, ([8, 16]), ()), (4, ([15, 30]), ())] : List (Int × (List UInt8 × Unit))).getD 0 (0, ([], ()))).2).1, ()), ((([(0, ([11, 22]), ()), (1, ([8, 16]), ()), (4, ([15, 30]), ())] : List (Int × (List UInt8 × Unit))).getD 1 (0, ([], ()))).1, ((([(0, ([11, 22]), ()), (1, ([8, 16]), ()), (4, ([15, 30]), ())] : List (Int × (List UInt8 × Unit))).getD 1 (0, ([], ()))).2).1, ()), (4, ([15, 31]), ())] : List (Int × (List UInt8 × Unit))) ++ ([(5, ([12, 24]), ())] : List (Int × (List UInt8 × Unit)))) 2 1).getD 0 0) = 4 by decide +kernel) h32⟩
  refine ⟨fun h33 => ?_, fun h33 => absurd (show ((rbH (([((([(0, ([11, 22]), ()), (1, ([8, 16]), ()), (4, ([15, 30]), ())] : List (Int × (List UInt8 × Unit))).getD 0 (0, ([], ()))).1, ((([(0, ([11, 22]), ()), (1, ([8, 16]), ()), (4, ([15, 30]), ())] : List (Int × (List UInt8 × Unit))).getD 0 (0, ([], ()))).2).1, ()), ((([(0, ([11, 22]), ()), (1, ([8, 16]), ()), (4, ([15, 30]), ())] : List (Int × (List UInt8 × Unit))).getD 1 (0, ([], ()))).1, ((([(0, ([11, 22]), ()), (1, ([8, 16]), ()), (4, ([15, 30]), ())] : List (Int × (List UInt8 × Unit))).getD 1 (0, ([], ()))).2).1, ()), (4, ([15, 31]), ())] : List (Int × (List UInt8 × Unit))) ++ ([(5, ([12, 24]), ())] : List (Int × (List UInt8 × Unit)))) 2 1).getD 0 0) = 4 by decide +kernel) h33⟩
  refine ⟨fun h34 => ?_, fun h34 => absurd (show ((rbH (([((([(0, ([11, 22]), ()), (1, ([8, 16]), ()), (4, ([15, 30]), ())] : List (Int × (List UInt8 × Unit))).getD 0 (0, ([], ()))).1, ((([(0, ([11, 22]), ()), (1, ([8, 16]), ()), (4, ([15, 30]), ())] : List (Int × (List UInt8 × Unit))).getD 0 (0, ([], ()))).2).1, ()), ((([(0, ([11, 22]), ()), (1, ([8, 16]), ()), (4, ([15, 30]), ())] : List (Int × (List UInt8 × Unit))).getD 1 (0, ([], ()))).1, ((([(0, ([11, 22]), ()), (1, ([8, 16]), ()), (4, ([15, 30]), ())] : List (Int × (List UInt8 × Unit))).getD 1 (0, ([], ()))).2).1, ()), (4, ([15, 31]), ())] : List (Int × (List UInt8 × Unit))) ++ ([(5, ([12, 24]), ())] : List (Int × (List UInt8 × Unit)))) 2 1).getD 0 0) = 4 by decide +kernel) h34⟩
  refine ⟨fun h35 => ?_, fun h35 => absurd (show (ftN ((([(0, ([11, 22]), ()), (1, ([8, 16]), ()), (4, ([15, 30]), ())] : List (Int × (List UInt8 × Unit))).drop 0).take (1 - 0)) 2 ([0, 0])) = 0 by decide +kernel) h35⟩
  refine ⟨fun h36 => ?_, fun h36 => absurd (show (ftN ((([(0, ([11, 22]), ()), (1, ([8, 16]), ()), (4, ([15, 30]), ())] : List (Int × (List UInt8 × Unit))).drop 0).take (1 - 0)) 2 ([0, 0])) = 0 by decide +kernel) h36⟩
  refine ⟨fun h37 => ?_, fun h37 => absurd (show ftP ((([(0, ([11, 22]), ()), (1, ([8, 16]), ()), (4, ([15, 30]), ())] : List (Int × (List UInt8 × Unit))).drop 0).take (1 - 0)) 2 ([0, 0]) by decide +kernel) h37⟩
  refine ⟨fun h38 => ?_, fun h38 => absurd (show ftP ((([(0, ([11, 22]), ()), (1, ([8, 16]), ()), (4, ([15, 30]), ())] : List (Int × (List UInt8 × Unit))).drop 0).take (1 - 0)) 2 ([0, 0]) by decide +kernel) h38⟩
  refine ⟨fun h39 => ?_, fun h39 => absurd (show ftP ((([(0, ([11, 22]), ()), (1, ([8, 16]), ()), (4, ([15, 30]), ())] : List (Int × (List UInt8 × Unit))).drop 0).take (1 - 0)) 2 ([0, 0]) by decide +kernel) h39⟩
  refine ⟨fun h40 => ?_, fun h40 => absurd (show (ftN ([]) 2 ([0, 0])) = 2 by decide +kernel) h40⟩
  refine ⟨fun h41 => ?_, fun h41 => absurd (show (ftN ([]) 2 ([0, 0])) = 2 by decide +kernel) h41⟩
  refine ⟨fun h42 => ?_, fun h42 => absurd (show ftP ([]) 2 ([0, 0]) by decide +kernel) h42⟩
  refine ⟨fun h43 => ?_, fun h43 => absurd (show ftP ([]) 2 ([0, 0]) by decide +kernel) h43⟩
  refine ⟨fun h44 => ?_, fun h44 => absurd (show ftP ([]) 2 ([0, 0]) by decide +kernel) h44⟩
  refine ⟨fun h45 => ?_, fun h45 => absurd (show (ftN ((([(0, ([11, 22]), ()), (1, ([8, 16]), ()), (4, ([15, 30]), ())] : List (Int × (List UInt8 × Unit))).drop 0).take (2 - 0)) 2 ([0, 0])) = 0 by decide +kernel) h45⟩
  refine ⟨fun h46 => ?_, fun h46 => absurd (show (ftN ((([(0, ([11, 22]), ()), (1, ([8, 16]), ()), (4, ([15, 30]), ())] : List (Int × (List UInt8 × Unit))).drop 0).take (2 - 0)) 2 ([0, 0])) = 0 by decide +kernel) h46⟩
  refine ⟨fun h47 => ?_, fun h47 => absurd (show (ftN ((([(0, ([11, 22]), ()), (1, ([8, 16]), ()), (4, ([15, 30]), ())] : List (Int × (List UInt8 × Unit))).drop 0).take (2 - 0)) 2 ([0, 0])) = 0 by decide +kernel) h47⟩
  refine ⟨fun h48 => ?_, fun h48 => absurd (show ¬ (ftP ((([(0, ([11, 22]), ()), (1, ([8, 16]), ()), (4, ([15, 30]), ())] : List (Int × (List UInt8 × Unit))).drop 0).take (2 - 0)) 2 ([0, 0])) by decide +kernel) h48⟩
  refine ⟨fun h49 => ?_, fun h49 => absurd (show ¬ (ftP ((([(0, ([11, 22]), ()), (1, ([8, 16]), ()), (4, ([15, 30]), ())] : List (Int × (List UInt8 × Unit))).drop 0).take (2 - 0)) 2 ([0, 0])) by decide +kernel) h49⟩
  refine ⟨by show ([(0, ([11, 22]), ()), (1, ([8, 16]), ()), (4, ([15, 30]), ())] : List (Int × (List UInt8 × Unit))).length ≤ 1048576; decide +kernel, fun h50 => ?_, fun h50 => absurd (show ¬ (ftP ((([(0, ([11, 22]), ()), (1, ([8, 16]), ()), (4, ([15, 30]), ())] : List (Int × (List UInt8 × Unit))).drop 0).take (2 - 0)) 2 ([0, 0])) by decide +kernel) h50⟩
  refine ⟨fun h51 => ?_, fun h51 => absurd (show ¬ (ftP ((([(0, ([11, 22]), ()), (1, ([8, 16]), ()), (4, ([15, 30]), ())] : List (Int × (List UInt8 × Unit))).drop 0).take (2 - 0)) 2 ([0, 0])) by decide +kernel) h51⟩
  refine ⟨fun h52 => ?_, fun h52 => absurd (show (chkE ([(0, ([11, 22]), ()), (1, ([8, 16]), ()), (4, ([15, 30]), ())] : List (Int × (List UInt8 × Unit)))) = 0 by decide +kernel) h52⟩
  refine ⟨fun h53 => ?_, fun h53 => absurd (show (chkE ([(0, ([11, 22]), ()), (1, ([8, 16]), ()), (4, ([15, 30]), ())] : List (Int × (List UInt8 × Unit)))) = 0 by decide +kernel) h53⟩
  refine ⟨⟨by show (0 : Int) ≤ 1; first | omega | decide +kernel, by show 1 < (([(0, ([11, 22]), ()), (1, ([8, 16]), ()), (4, ([15, 30]), ())] : List (Int × (List UInt8 × Unit))).length : Int); first | omega | decide +kernel⟩, fun h54 => ?_, fun h54 => absurd (show (chkE ([(0, ([11, 22]), ()), (1, ([8, 16]), ()), (4, ([15, 30]), ())] : List (Int × (List UInt8 × Unit)))) = 0 by decide +kernel) h54⟩
  refine ⟨fun h55 => ?_, fun h55 => absurd (show (chkE ([(0, ([11, 22]), ()), (1, ([8, 16]), ()), (4, ([15, 30]), ())] : List (Int × (List UInt8 × Unit)))) = 0 by decide +kernel) h55⟩
  refine ⟨fun h56 => ?_, fun h56 => absurd (show (chkE ([(0, ([11, 22]), ()), (1, ([8, 16]), ()), (4, ([15, 30]), ())] : List (Int × (List UInt8 × Unit)))) = 0 by decide +kernel) h56⟩
  refine ⟨⟨by show (0 : Int) ≤ 0; first | omega | decide +kernel, by show 0 < (([(0, ([11, 22]), ()), (1, ([8, 16]), ()), (4, ([15, 30]), ())] : List (Int × (List UInt8 × Unit))).length : Int); first | omega | decide +kernel⟩, fun h57 => ?_, fun h57 => absurd (show (chkE ([(0, ([11, 22]), ()), (1, ([8, 16]), ()), (4, ([15, 30]), ())] : List (Int × (List UInt8 × Unit)))) = 0 by decide +kernel) h57⟩
  refine ⟨fun h58 => ?_, fun h58 => absurd (show (chkE ([(0, ([11, 22]), ()), (1, ([8, 16]), ()), (4, ([15, 30]), ())] : List (Int × (List UInt8 × Unit)))) = 0 by decide +kernel) h58⟩
  refine ⟨rfl, rfl, fun h59 => ?_, fun h59 => absurd (show (chkE ([(0, ([11, 22]), ()), (1, ([8, 16]), ()), (4, ([15, 30]), ())] : List (Int × (List UInt8 × Unit)))) = 0 by decide +kernel) h59⟩
  refine ⟨by show ([((([(0, ([11, 22]), ()), (1, ([8, 16]), ()), (4, ([15, 30]), ())] : List (Int × (List UInt8 × Unit))).getD 1 (0, ([], ()))).1, ((([(0, ([11, 22]), ()), (1, ([8, 16]), ()), (4, ([15, 30]), ())] : List (Int × (List UInt8 × Unit))).getD 1 (0, ([], ()))).2).1, ()), ((([(0, ([11, 22]), ()), (1, ([8, 16]), ()), (4, ([15, 30]), ())] : List (Int × (List UInt8 × Unit))).getD 0 (0, ([], ()))).1, ((([(0, ([11, 22]), ()), (1, ([8, 16]), ()), (4, ([15, 30]), ())] : List (Int × (List UInt8 × Unit))).getD 0 (0, ([], ()))).2).1, ())] : List (Int × (List UInt8 × Unit))).length ≤ 1048576; decide +kernel, fun h60 => ?_, fun h60 => absurd (show (chkE ([(0, ([11, 22]), ()), (1, ([8, 16]), ()), (4, ([15, 30]), ())] : List (Int × (List UInt8 × Unit)))) = 0 by decide +kernel) h60⟩
  refine ⟨fun h61 => ?_, fun h61 => absurd (show (chkE ([(0, ([11, 22]), ()), (1, ([8, 16]), ()), (4, ([15, 30]), ())] : List (Int × (List UInt8 × Unit)))) = 0 by decide +kernel) h61⟩
  exact ⟨rfl, rfl, congrArg V.b (propext ⟨fun _ => trivial, fun _ => by show (chkE ([((([(0, ([11, 22]), ()), (1, ([8, 16]), ()), (4, ([15, 30]), ())] : List (Int × (List UInt8 × Unit))).getD 1 (0, ([], ()))).1, ((([(0, ([11, 22]), ()), (1, ([8, 16]), ()), (4, ([15, 30]), ())] : List (Int × (List UInt8 × Unit))).getD 1 (0, ([], ()))).2).1, ()), ((([(0, ([11, 22]), ()), (1, ([8, 16]), ()), (4, ([15, 30]), ())] : List (Int × (List UInt8 × Unit))).getD 0 (0, ([], ()))).1, ((([(0, ([11, 22]), ()), (1, ([8, 16]), ()), (4, ([15, 30]), ())] : List (Int × (List UInt8 × Unit))).getD 0 (0, ([], ()))).2).1, ())] : List (Int × (List UInt8 × Unit)))) = 1; decide +kernel⟩), rfl⟩
def CSan : List (Nat × Con) := (12, pureC [] sSan) :: CSml
theorem kSan : Known Tryd.prog (En CSan tys G6 QCo2) := Known.frz0 <| (kSml.frz [1000001, 1000002]).add Tryd.func12 Tryd.call12 [.k] fun ds p v bs h hp => by
  unfold sSan at h
  split at h <;> simp only [Option.some.injEq, Prod.mk.injEq, reduceCtorEq] at h
  obtain ⟨rfl, rfl, rfl⟩ := h
  exact bSan 
end Go.Proofs.YtakbedmeieeekaaDoor.S26

namespace Go.Proofs.YtakbedmeieeekaaDoor.S26
open Go Go.Proofs.YtakbedmeieeekaaDoor.Vc Go.Proofs
set_option maxRecDepth 100000

/-! ### lists of shares that are right -/
theorem inc_len : ∀ (l : List Int) (a b : Int), a ≤ b → (∀ x ∈ l, a ≤ x ∧ x < b) → l.Pairwise (· < ·) → (l.length : Int) ≤ b - a
  | [], a, b, h, _, _ => by simp; omega
  | x :: l, a, b, _, hx, hp => by
    rw [List.pairwise_cons] at hp
    have h1 := hx x (by simp)
    have := inc_len l (x + 1) b (by omega) (fun y hy => by have := hx y (by simp [hy]); have := hp.1 y hy; omega) hp.2
    rw [List.length_cons]; omega
theorem chk_of {l : List (Int × List UInt8 × Unit)} {n : Nat} (h1 : ∀ s ∈ l, knw s.1 ∧ s.2.1.length = n) (hn : n ≤ 4096) (hp : l.Pairwise fun a b => a.1 < b.1) : chkE l = 0 := by
  have hl : ((l.map (·.1)).length : Int) ≤ 12 - 0 := inc_len _ 0 12 (by omega) (fun x hx => by obtain ⟨s, hs, rfl⟩ := List.mem_map.1 hx; exact (h1 s hs).1) (List.pairwise_map.2 hp)
  rw [List.length_map] at hl
  have ha : ¬ l.all smB = false := fun e => by
    have : l.all smB = true := List.all_eq_true.2 fun s hs => decide_eq_true (by have := (h1 s hs).2; omega)
    rw [e] at this; cases this
  refine chk0' (by omega) ha (List.all_eq_true.2 fun k hk => decide_eq_true ?_)
  have hk := List.mem_range.1 hk
  have hm := h1 _ (getD_mem (0, [], ()) l k hk)
  have h0 := h1 _ (getD_mem (0, [], ()) l 0 (by omega))
  refine ⟨hm.1, ?_, by unfold lnS; omega⟩
  rcases Nat.eq_zero_or_pos k with e | e
  · exact .inl e
  · right
    have := List.pairwise_iff_getElem.1 hp (k - 1) k (by omega) hk (by omega)
    simpa [List.getD_eq_getElem?_getD, hk, show k - 1 < l.length by omega] using this
theorem ShOk.pair {l : List (Int × List UInt8 × Unit)} (hc : ShOk l) : l.Pairwise fun a b => a.1 < b.1 := by
  rw [List.pairwise_iff_getElem]
  intro i j hi hj hij
  have := up_lt hc.up hij hj
  simpa [List.getD_eq_getElem?_getD, hi, hj] using this
theorem chk_sub {l p : List (Int × List UInt8 × Unit)} (hc : ShOk l) (h : p.Sublist l) : chkE p = 0 :=
  chk_of (n := lnS l) (fun s hs => ⟨hc.house s (h.subset hs), hc.bytes s (h.subset hs)⟩) hc.max (hc.pair.sublist h)
theorem ln_sub {l p : List (Int × List UInt8 × Unit)} (hc : ShOk l) (h : p.Sublist l) (hp : 0 < p.length) : lnS p = lnS l := hc.bytes _ (h.subset (getD_mem (0, [], ()) p 0 hp))
theorem smK_sub (l : List (Int × List UInt8 × Unit)) (s : Int) : ∀ k, k ≤ l.length → (smK l s k).Sublist (l.take k)
  | 0, _ => List.nil_sublist _
  | k + 1, h => by
    rw [takeD (0, [], ()) l k (by omega)]
    unfold smK
    split
    · exact (smK_sub l s k (by omega)).append (List.Sublist.refl _)
    · exact (smK_sub l s k (by omega)).trans (List.sublist_append_left _ _)
theorem sm_sub (l : List (Int × List UInt8 × Unit)) (s : Int) : (smK l s l.length).Sublist l := by
  have := smK_sub l s l.length (Nat.le_refl _)
  rwa [List.take_length] at this

/-! ### joining the values of polynomials -/
theorem poly_line {l : List (Int × List UInt8 × Unit)} (hc : ShOk l) {m k : Nat} (h1 : 1 ≤ m) (h2 : m ≤ l.length) {p : List UInt8} (hz : sz p ≤ m) (hv : ∀ s ∈ l, s.2.1.getD k 0 = horner (pt s.1) p) :
    (tpL (xsL l) (ysL l k) ((m : Int) - 1)).2 = 0 ∧ ∀ x, horner x (tpL (xsL l) (ysL l k) ((m : Int) - 1)).1 = horner x p := by
  have ht := tp_line (hc.right k) h1 (by rw [xsL_len]; exact h2) (d := (m : Int) - 1) rfl
  have hr := right_take (xsL l) (ysL l k) m (hc.right k)
  have hl : ((xsL l).take m).length = m := by rw [List.length_take, xsL_len]; omega
  have hval : ∀ j, j < l.length → horner ((xsL l).getD j 0) p = (ysL l k).getD j 0 := fun j hj => by
    rw [xsL_get hj, ysL_get hj, hv _ (getD_mem (0, [], ()) l j hj)]
  have hline : trimL (lineL ((xsL l).take m) ((ysL l k).take m)) = trimL p := by
    refine poly_unique ((xsL l).take m) _ _ hr.1 (fun x hx => ?_) (by have := lineL_sz ((xsL l).take m) ((ysL l k).take m); omega) (by omega)
    obtain ⟨j, hj, rfl⟩ := getD_mem' (d := 0) hx
    rw [hl] at hj
    rw [lineL_val _ _ hr.1 j (by omega), getD_take _ _ _ hj, getD_take _ _ _ hj, hval j (by omega)]
  have hh : ∀ x, horner x (lineL ((xsL l).take m) ((ysL l k).take m)) = horner x p := fun x => by rw [← horner_trim x (lineL _ _), hline, horner_trim]
  have h0 : (tpL (xsL l) (ysL l k) ((m : Int) - 1)).2 = 0 := ht.1.2 fun j _ hj => by rw [xsL_len] at hj; rw [hh, hval j hj]
  exact ⟨h0, fun x => by rw [ht.2 h0, hh]⟩
theorem join_poly {l : List (Int × List UInt8 × Unit)} (hc : ShOk l) {nd : Int} (h1 : 1 ≤ nd) (h2 : nd ≤ (l.length : Int)) {P : Nat → List UInt8} (hP : ∀ k, k < lnS l → sz (P k) ≤ nd.toNat ∧ ∀ s ∈ l, s.2.1.getD k 0 = horner (pt s.1) (P k)) (x : UInt8) :
    jnE l nd = 0 ∧ jnS l nd x = (List.range (lnS l)).map fun k => horner x (P k) := by
  have key : ∀ k, k < lnS l → (tpL (xsL l) (ysL l k) (nd - 1)).2 = 0 ∧ ∀ x, horner x (tpL (xsL l) (ysL l k) (nd - 1)).1 = horner x (P k) := fun k hk => by
    have := poly_line hc (m := nd.toNat) (k := k) (by omega) (by omega) (hP k hk).1 (hP k hk).2
    rwa [Int.toNat_of_nonneg (by omega)] at this
  have e := jn0 (l := l) (nd := nd) (by omega) fun k hk => (key k hk).1
  refine ⟨e, ?_⟩
  rw [jnS0 e]
  unfold jnK
  apply List.map_congr_left
  intro k hk
  exact (key k (List.mem_range.1 hk)).2 x

/-! ### the shares of a splitting -/
structure Spl (sec : List UInt8) (nd : Int) (hs : List Int) (nz : List UInt8) : Prop where
  len : sec.length ≤ 4096
  n1 : 1 ≤ nd
  n12 : nd ≤ 12
  hl : nd ≤ (hs.length : Int)
  ok : hsOk hs = true
  nz : (nz.length : Int) = (sec.length : Int) * (nd - 1)
theorem spl0 {sec : List UInt8} {nd : Int} {hs : List Int} {nz : List UInt8} (h : splE sec nd hs nz = 0) : Spl sec nd hs nz := by
  unfold splE at h
  split at h
  · cases h
  · split at h
    · cases h
    · split at h
      · cases h
      · split at h
        · cases h
        · rename_i h4
          split at h
          · exact ⟨by omega, by omega, by omega, by omega, by simpa using h4, by assumption⟩
          · cases h
theorem Spl.e {sec : List UInt8} {nd : Int} {hs : List Int} {nz : List UInt8} (h : Spl sec nd hs nz) : splE sec nd hs nz = 0 := by
  unfold splE
  rw [if_neg (by have := h.len; omega), if_neg (by have := h.n1; have := h.n12; omega), if_neg (by have := h.hl; omega), if_neg (by rw [h.ok]; decide), if_pos h.nz]
theorem Spl.l {sec : List UInt8} {nd : Int} {hs : List Int} {nz : List UInt8} (h : Spl sec nd hs nz) : splL sec nd hs nz = hs.map (shS sec nd nz) := if_pos h.e
theorem Spl.llen {sec : List UInt8} {nd : Int} {hs : List Int} {nz : List UInt8} (h : Spl sec nd hs nz) : (splL sec nd hs nz).length = hs.length := by rw [h.l, List.length_map]
theorem Spl.nzn {sec : List UInt8} {nd : Int} {hs : List Int} {nz : List UInt8} (h : Spl sec nd hs nz) : nz.length = sec.length * (nd - 1).toNat := by
  have h1 := h.nz; have h2 := h.n1
  exact Int.ofNat_inj.1 (by rw [Int.natCast_mul, Int.toNat_of_nonneg (by omega)]; exact h1)
theorem hs_pair {hs : List Int} (h : hsOk hs = true) : hs.Pairwise (· < ·) := by
  have h1 : ∀ k, k + 1 < hs.length → hs.getD k 0 < hs.getD (k + 1) 0 := fun k hk => by
    have := (hs_get h hk).2
    rcases this with e | e
    · omega
    · simpa using e
  have h2 : ∀ i j, i < j → j < hs.length → hs.getD i 0 < hs.getD j 0 := fun i j hij => by
    induction j with
    | zero => omega
    | succ j ih =>
      intro hj
      have h3 := h1 j hj
      by_cases e : i = j
      · rw [e]; exact h3
      · have := ih (by omega) (by omega); omega
  rw [List.pairwise_iff_getElem]
  intro i j hi hj hij
  simpa [List.getD_eq_getElem?_getD, hi, hj] using h2 i j hij hj
theorem hs_knw {hs : List Int} (h : hsOk hs = true) : ∀ x ∈ hs, knw x := fun x hx => by
  obtain ⟨k, hk, rfl⟩ := getD_mem' (d := 0) hx
  exact (hs_get h hk).1
theorem hs_12 {hs : List Int} (h : hsOk hs = true) : hs.length ≤ 12 := by
  have := inc_len hs 0 12 (by omega) (fun x hx => hs_knw h x hx) (hs_pair h)
  omega
def polK (sec nz : List UInt8) (nd : Int) (k : Nat) : List UInt8 := sec.getD k 0 :: cfs nz sec.length (nd - 1).toNat k
theorem polK_sz (sec nz : List UInt8) {nd : Int} (h : 1 ≤ nd) (k : Nat) : sz (polK sec nz nd k) ≤ nd.toNat := by
  have := sz_len (polK sec nz nd k)
  unfold polK at this ⊢
  rw [List.length_cons, cfs_len] at this
  omega
theorem shS_get (sec nz : List UInt8) (nd h : Int) {k : Nat} (hk : k < sec.length) : (shS sec nd nz h).2.1.getD k 0 = horner (pt h) (polK sec nz nd k) := map_range_get hk
theorem Spl.mem {sec : List UInt8} {nd : Int} {hs : List Int} {nz : List UInt8} (h : Spl sec nd hs nz) {s : (Int × List UInt8 × Unit)} (hs' : s ∈ splL sec nd hs nz) : knw s.1 ∧ s.2.1.length = sec.length ∧ ∀ k, k < sec.length → s.2.1.getD k 0 = horner (pt s.1) (polK sec nz nd k) := by
  rw [h.l] at hs'
  obtain ⟨x, hx, rfl⟩ := List.mem_map.1 hs'
  exact ⟨hs_knw h.ok x hx, shB_len _ _ _ _, fun k hk => shS_get sec nz nd x hk⟩
theorem Spl.chk {sec : List UInt8} {nd : Int} {hs : List Int} {nz : List UInt8} (h : Spl sec nd hs nz) : chkE (splL sec nd hs nz) = 0 := by
  refine chk_of (n := sec.length) (fun s hs' => ⟨(h.mem hs').1, (h.mem hs').2.1⟩) h.len ?_
  rw [h.l]
  exact List.pairwise_map.2 (hs_pair h.ok)
theorem horner_z (c : UInt8) (p : List UInt8) : horner 0 (c :: p) = c := by
  rw [horner, mul_zero']; simp
theorem range_self (s : List UInt8) : (List.range s.length).map (fun k => s.getD k 0) = s := by
  have := range_get 0 (fun x : UInt8 => x) s
  simpa using this
/-- Joining some of the shares. -/
theorem spl_part {sec : List UInt8} {nd : Int} {hs : List Int} {nz : List UInt8} (h : Spl sec nd hs nz) {p : List (Int × List UInt8 × Unit)} (hp : p.Sublist (splL sec nd hs nz)) : rdE p nd = 0 ∧ ((p.length : Int) < nd → jnE p nd = 29) ∧ (¬ (p.length : Int) < nd → jnE p nd = 0 ∧ jnS p nd 0 = sec ∧ ∀ x, jnS p nd (pt x) = (shS sec nd nz x).2.1) := by
  have hc := chk0 h.chk
  have hcp := chk_sub hc hp
  have h1 := h.n1; have h2 := h.n12
  refine ⟨by unfold rdE; rw [if_pos hcp, if_neg (by omega)], fun e => jn29 e, fun e => ?_⟩
  have hln : lnS p = sec.length := by
    have hm : p.getD 0 (0, [], ()) ∈ splL sec nd hs nz := hp.subset (getD_mem (0, [], ()) p 0 (by omega))
    exact (h.mem hm).2.1
  have key := fun x => join_poly (chk0 hcp) h1 (by omega) (P := polK sec nz nd) (fun k hk => ⟨polK_sz sec nz h1 k, fun s hs' => (h.mem (hp.subset hs')).2.2 k (by omega)⟩) x
  refine ⟨(key 0).1, ?_, fun x => ?_⟩
  · rw [(key 0).2, hln]
    refine Eq.trans ?_ (range_self sec)
    apply List.map_congr_left
    intro k _
    exact horner_z _ _
  · rw [(key (pt x)).2, hln]; rfl
end Go.Proofs.YtakbedmeieeekaaDoor.S26

namespace Go.Proofs.YtakbedmeieeekaaDoor.S26
open Go Go.Proofs.YtakbedmeieeekaaDoor.Vc Go.Proofs
set_option maxRecDepth 100000

/-! ### all houses -/
def evK (k : Nat) : List Int := (List.range k).map fun i : Nat => (i : Int)
theorem evK_len (k : Nat) : (evK k).length = k := by simp [evK]
theorem evK_snoc (k : Nat) : evK (k + 1) = evK k ++ [(k : Int)] := by unfold evK; rw [List.range_succ, List.map_append]; rfl
theorem evK_get {k i : Nat} (h : i < k) : (evK k).getD i 0 = (i : Int) := by simp [evK, List.getElem?_map, List.getElem?_range h]
theorem ev_ok : hsOk (evK 12) = true := by decide
theorem Spl.every {sec : List UInt8} {nd : Int} {hs : List Int} {nz : List UInt8} (h : Spl sec nd hs nz) : Spl sec nd (evK 12) nz :=
  ⟨h.len, h.n1, h.n12, by rw [evK_len]; have := h.n12; omega, ev_ok, h.nz⟩
theorem map_getD {α β : Type} {d : α} {d' : β} (f : α → β) {l : List α} {k : Nat} (h : k < l.length) : (l.map f).getD k d' = f (l.getD k d) := by
  simp [List.getD_eq_getElem?_getD, List.getElem?_map, List.getElem?_eq_getElem h]
theorem Spl.get {sec : List UInt8} {nd : Int} {hs : List Int} {nz : List UInt8} (h : Spl sec nd hs nz) {k : Nat} (hk : k < hs.length) : (splL sec nd hs nz).getD k (0, [], ()) = shS sec nd nz (hs.getD k 0) := by
  rw [h.l, map_getD (d := 0) _ hk]
theorem Spl.all {sec : List UInt8} {nd : Int} {hs : List Int} {nz : List UInt8} (h : Spl sec nd hs nz) {x : Int} (hx : knw x) : (splL sec nd (evK 12) nz).getD x.toNat (0, [], ()) = shS sec nd nz x := by
  obtain ⟨a, b⟩ := hx
  rw [h.every.get (by rw [evK_len]; omega), evK_get (by omega), Int.toNat_of_nonneg a]
theorem part_few {sec : List UInt8} {nd : Int} {hs : List Int} {nz : List UInt8} (h : Spl sec nd hs nz) {p : List (Int × List UInt8 × Unit)} (hp : p.Sublist (splL sec nd hs nz)) {x : Int} (hx : knw x) (hl : (p.length : Int) < nd) :
    joE p nd = 29 ∧ joS p nd 0 = [] ∧ exE p nd x = 29 ∧ exH p nd x = 0 ∧ exS p nd x = [] := by
  obtain ⟨r, f, _⟩ := spl_part h hp
  have e := f hl
  have e3 : exE p nd x = 29 := by unfold exE; rw [if_pos r, if_pos hx, e]
  exact ⟨(if_pos r).trans e, (if_pos r).trans (jnSn (by rw [e]; decide)), e3, if_neg (by rw [e3]; decide), if_neg (by rw [e3]; decide)⟩
theorem part_ok {sec : List UInt8} {nd : Int} {hs : List Int} {nz : List UInt8} (h : Spl sec nd hs nz) {p : List (Int × List UInt8 × Unit)} (hp : p.Sublist (splL sec nd hs nz)) {x : Int} (hx : knw x) (hl : ¬ (p.length : Int) < nd) :
    joE p nd = 0 ∧ joS p nd 0 = sec ∧ exE p nd x = 0 ∧ exH p nd x = x ∧ exS p nd x = (shS sec nd nz x).2.1 := by
  obtain ⟨r, _, f⟩ := spl_part h hp
  obtain ⟨e, e1, e2⟩ := f hl
  have e3 : exE p nd x = 0 := by unfold exE; rw [if_pos r, if_pos hx, e]
  exact ⟨(if_pos r).trans e, (if_pos r).trans e1, e3, if_pos e3, (if_pos e3).trans (e2 x)⟩
/-! ### sums -/
theorem hor_xor (x : UInt8) (f g : Nat → UInt8) : ∀ l : List Nat, horner x (l.map fun a => f a ^^^ g a) = horner x (l.map f) ^^^ horner x (l.map g)
  | [] => by simp [horner]
  | a :: l => by
    rw [List.map_cons, List.map_cons, List.map_cons, horner, horner, horner, hor_xor x f g l, mulL_add]
    ac_rfl
theorem cfs_sum {nz nn : List UInt8} {n m k : Nat} (hl : nz.length = nn.length) (hn : nz.length = n * m) (hk : k < n) (x : UInt8) : horner x (cfs (sumB nz nn) n m k) = horner x (cfs nz n m k) ^^^ horner x (cfs nn n m k) := by
  unfold cfs
  rw [← hor_xor]
  congr 1
  apply List.map_congr_left
  intro a ha
  have ha := List.mem_range.1 ha
  have h1 : (a + 1) * n ≤ m * n := Nat.mul_le_mul_right n ha
  rw [Nat.succ_mul, Nat.mul_comm m n, ← hn] at h1
  exact sum_get hl (by omega)
theorem shB_sum {sec sc nz nn : List UInt8} {m : Nat} {x : UInt8} (h1 : sec.length = sc.length) (h2 : nz.length = nn.length) (hn : nz.length = sec.length * m) : sumB (shB sec nz m x) (shB sc nn m x) = shB (sumB sec sc) (sumB nz nn) m x := by
  have hs : (sumB sec sc).length = sec.length := by rw [sum_len]; omega
  refine ext_get (N := sec.length) (by rw [sum_len, shB_len, shB_len]; omega) (by rw [shB_len, hs]) fun k hk => ?_
  rw [sum_get (by rw [shB_len, shB_len, h1]) (by rw [shB_len]; exact hk)]
  unfold shB
  rw [map_range_get hk, map_range_get (by omega), map_range_get (by omega), hs, ← h1, horner, horner, horner, sum_get h1 hk, cfs_sum h2 hn hk, mulL_add]
  ac_rfl
theorem splE_len {sec sc nz nn : List UInt8} (h1 : sc.length = sec.length) (h2 : nn.length = nz.length) (nd : Int) (hs : List Int) : splE sc nd hs nn = splE sec nd hs nz := by
  unfold splE
  rw [h1, h2]
structure Adds (sec : List UInt8) (nd : Int) (hs : List Int) (nz sc nn : List UInt8) (q : Nat) : Prop where
  e : adE ((splL sec nd hs nz).getD q (0, [], ())) ((splL sc nd hs nn).getD q (0, [], ())) = 0
  h : adH ((splL sec nd hs nz).getD q (0, [], ())) ((splL sc nd hs nn).getD q (0, [], ())) = ((splL (sumB sec sc) nd hs (sumB nz nn)).getD q (0, [], ())).1
  s : adS ((splL sec nd hs nz).getD q (0, [], ())) ((splL sc nd hs nn).getD q (0, [], ())) = ((splL (sumB sec sc) nd hs (sumB nz nn)).getD q (0, [], ())).2.1
theorem adds {sec : List UInt8} {nd : Int} {hs : List Int} {nz sc nn : List UInt8} (h : Spl sec nd hs nz) (h1 : sc.length = sec.length) (h2 : nn.length = nz.length) {q : Nat} (hq : q < hs.length) : Adds sec nd hs nz sc nn q := by
  have hb := spl0 ((splE_len h1 h2 nd hs).trans h.e)
  have hsum := spl0 ((splE_len (sc := sumB sec sc) (nn := sumB nz nn) (by rw [sum_len]; omega) (by rw [sum_len]; omega) nd hs).trans h.e)
  have hk := (hs_get h.ok hq).1
  have c1 : chkE [shS sec nd nz (hs.getD q 0)] = 0 := chk_of (n := sec.length) (fun s hs' => by rw [List.mem_singleton] at hs'; subst hs'; exact ⟨hk, shB_len _ _ _ _⟩) h.len (by simp)
  have c2 : chkE [shS sc nd nn (hs.getD q 0)] = 0 := chk_of (n := sc.length) (fun s hs' => by rw [List.mem_singleton] at hs'; subst hs'; exact ⟨hk, shB_len _ _ _ _⟩) hb.len (by simp)
  have e : adE (shS sec nd nz (hs.getD q 0)) (shS sc nd nn (hs.getD q 0)) = 0 := by
    unfold adE
    rw [if_pos c1, if_pos c2, if_pos ⟨rfl, by show (shB _ _ _ _).length = (shB _ _ _ _).length; rw [shB_len, shB_len, h1]⟩]
  refine ⟨?_, ?_, ?_⟩
  · rw [h.get hq, hb.get hq]; exact e
  · rw [h.get hq, hb.get hq, hsum.get hq]; exact if_pos e
  · rw [h.get hq, hb.get hq, hsum.get hq]; exact (if_pos e).trans (shB_sum h1.symm h2.symm h.nzn)
end Go.Proofs.YtakbedmeieeekaaDoor.S26

namespace Go.Proofs.YtakbedmeieeekaaDoor.S26
open Go Go.Proofs.YtakbedmeieeekaaDoor.Vc Go.Proofs
set_option maxRecDepth 100000

/-! ### which shares are off -/
def bdB (P : Nat → List UInt8) (n : Nat) (s : (Int × List UInt8 × Unit)) : Bool := (List.range n).any fun k => decide (horner (pt s.1) (P k) ≠ s.2.1.getD k 0)
theorem bd_iff {P : Nat → List UInt8} {n : Nat} {s : (Int × List UInt8 × Unit)} : bdB P n s = true ↔ ∃ k, k < n ∧ horner (pt s.1) (P k) ≠ s.2.1.getD k 0 := by
  unfold bdB
  rw [List.any_eq_true]
  constructor
  · rintro ⟨k, hk, h⟩; exact ⟨k, List.mem_range.1 hk, of_decide_eq_true h⟩
  · rintro ⟨k, hk, h⟩; exact ⟨k, List.mem_range.2 hk, decide_eq_true h⟩
theorem missA_filter (p xs ys : List UInt8) : ∀ n, missA p xs ys n = ((List.range n).filter fun i => decide (horner (xs.getD i 0) p ≠ ys.getD i 0)).map fun i : Nat => (i : Int)
  | 0 => rfl
  | n + 1 => by
    rw [missA, missA_filter p xs ys n, List.range_succ, List.filter_append, List.map_append]
    by_cases h : horner (xs.getD n 0) p ≠ ys.getD n 0
    · rw [if_pos h, List.filter_cons, if_pos (decide_eq_true h)]; rfl
    · rw [if_neg h, List.filter_cons, if_neg (by rw [decide_eq_true_eq]; exact h)]; simp
theorem range_getD {α : Type} (d : α) (l : List α) : (List.range l.length).map (fun i => l.getD i d) = l := by
  have := range_get d (fun x : α => x) l
  simpa using this
theorem filter_range {α : Type} (d : α) (l : List α) (f : α → Bool) : l.filter f = ((List.range l.length).filter fun i => f (l.getD i d)).map fun i => l.getD i d := by
  conv => lhs; rw [← range_getD d l]
  rw [List.filter_map]
  rfl
theorem filter_le {α : Type} (l : List α) (f g : α → Bool) (h : ∀ x ∈ l, f x = true → g x = true) : (l.filter f).length ≤ (l.filter g).length := by
  rw [← List.countP_eq_length_filter, ← List.countP_eq_length_filter]
  exact List.countP_mono_left h
theorem miss_le {l : List (Int × List UInt8 × Unit)} {P : Nat → List UInt8} {n k : Nat} (hk : k < n) : (missA (P k) (xsL l) (ysL l k) l.length).length ≤ (l.filter (bdB P n)).length := by
  rw [missA_filter, List.length_map, filter_range (0, [], ()) l, List.length_map]
  refine filter_le _ _ _ fun i hi h => ?_
  have hi := List.mem_range.1 hi
  have h := of_decide_eq_true h
  rw [xsL_get hi, ysL_get hi] at h
  exact bd_iff.2 ⟨k, hk, h⟩

/-! ### the houses that are noted -/
theorem keys_mput {α : Type} (n : Int) (x : α) : ∀ es : List (Int × α), (mput es n x).map (·.1) = if n ∈ es.map (·.1) then es.map (·.1) else es.map (·.1) ++ [n]
  | [] => rfl
  | (m, y) :: l => by
    unfold mput
    by_cases h : m = n
    · rw [if_pos h, if_pos (by simp [h])]; simp [h]
    · rw [if_neg h, List.map_cons, keys_mput n x l, List.map_cons]
      by_cases g : n ∈ l.map (·.1)
      · rw [if_pos g, if_pos (List.mem_cons_of_mem _ g)]
      · rw [if_neg g, if_neg (fun e => by rcases List.mem_cons.1 e with e | e; (exact h e.symm); (exact g e))]; rfl
theorem put_nodup (l : List (Int × List UInt8 × Unit)) : ∀ (a : List Int) (o : List (Int × Bool)), (o.map (·.1)).Nodup → ((putA l o a).map (·.1)).Nodup
  | [], o, h => h
  | i :: a, o, h => by
    refine put_nodup l a (mput o (l.getD i.toNat (0, [], ())).1 true) ?_
    rw [keys_mput]
    split
    · exact h
    · rename_i g
      rw [List.nodup_append]
      exact ⟨h, by simp, fun x hx y hy e => by rw [List.mem_singleton] at hy; rw [e, hy] at hx; exact g hx⟩
theorem put_mem (l : List (Int × List UInt8 × Unit)) (m : Int) : ∀ (a : List Int) (o : List (Int × Bool)), m ∈ (putA l o a).map (·.1) ↔ m ∈ o.map (·.1) ∨ ∃ i ∈ a, m = (l.getD i.toNat (0, [], ())).1
  | [], o => by
    show m ∈ o.map (·.1) ↔ _
    simp
  | i :: a, o => by
    have := put_mem l m a (mput o (l.getD i.toNat (0, [], ())).1 true)
    show m ∈ (putA l (mput o (l.getD i.toNat (0, [], ())).1 true) a).map (·.1) ↔ _
    rw [this, keys_mput]
    constructor
    · rintro (h | ⟨j, hj, e⟩)
      · split at h
        · exact .inl h
        · rcases List.mem_append.1 h with h | h
          · exact .inl h
          · rw [List.mem_singleton] at h; exact .inr ⟨i, by simp, h⟩
      · exact .inr ⟨j, by simp [hj], e⟩
    · rintro (h | ⟨j, hj, e⟩)
      · left; split
        · exact h
        · exact List.mem_append_left _ h
      · rcases List.mem_cons.1 hj with rfl | hj
        · left; split
          · rename_i g; rw [e]; exact g
          · rw [e]; exact List.mem_append_right _ (by simp)
        · exact .inr ⟨j, hj, e⟩
theorem odd_nodup (l : List (Int × List UInt8 × Unit)) (nd w : Int) : ∀ k, ((oddK l nd w k).map (·.1)).Nodup
  | 0 => List.nodup_nil
  | k + 1 => put_nodup l _ _ (odd_nodup l nd w k)
theorem odd_mem (l : List (Int × List UInt8 × Unit)) (nd w m : Int) : ∀ k, m ∈ (oddK l nd w k).map (·.1) ↔ ∃ j, j < k ∧ ∃ i ∈ (dcK l nd w j).2.1, m = (l.getD i.toNat (0, [], ())).1
  | 0 => by simp [oddK]
  | k + 1 => by
    show m ∈ (putA l (oddK l nd w k) (dcK l nd w k).2.1).map (·.1) ↔ _
    rw [put_mem, odd_mem l nd w m k]
    constructor
    · rintro (⟨j, hj, h⟩ | h)
      · exact ⟨j, by omega, h⟩
      · exact ⟨k, by omega, h⟩
    · rintro ⟨j, hj, h⟩
      by_cases e : j = k
      · right; rw [← e]; exact h
      · exact .inl ⟨j, by omega, h⟩
theorem sortK_of {xs ys : List Int} (h : xs.Perm ys) (hp : ys.Pairwise (· < ·)) : sortK xs = ys := by
  unfold sortK
  refine List.Perm.eq_of_pairwise (le := (· ≤ ·)) (fun a b _ _ h1 h2 => by omega) ?_ (hp.imp fun h => by omega) ((List.mergeSort_perm _ _).trans h)
  have := List.pairwise_mergeSort (le := fun x y : Int => decide (x ≤ y)) (fun a b c h1 h2 => by simp at *; omega) (fun a b => by simp; omega) xs
  exact this.imp fun h => of_decide_eq_true h

/-! ### correcting, where not too many are off -/
theorem dc_of {l : List (Int × List UInt8 × Unit)} (hc : ShOk l) {nd w : Int} (h1 : 1 ≤ nd) (hw : 0 ≤ w) (hl : nd + 2 * w ≤ (l.length : Int)) {k : Nat} {p : List UInt8} (hz : sz p ≤ nd.toNat) (hm : ((missA p (xsL l) (ysL l k) l.length).length : Int) ≤ w) :
    dcK l nd w k = (trimL p, missA p (xsL l) (ysL l k) l.length, 0) := by
  have hlen := hc.len
  have hd := dec_complete (xsL l) (ysL l k) (hc.right k) (by rw [xsL_len]; omega) (nd - 1) w (by unfold decOk; rw [xsL_len]; omega) p (by rw [degL_sz]; omega) (by rw [xsL_len]; exact hm)
  unfold dcK decT
  rw [hd, xsL_len]
  rfl
theorem house_inj {l : List (Int × List UInt8 × Unit)} (hc : ShOk l) : (l.map (·.1)).Pairwise (· < ·) := List.pairwise_map.2 hc.pair
theorem rob_poly {l : List (Int × List UInt8 × Unit)} (hc : ShOk l) {nd w : Int} (h1 : 1 ≤ nd) (h12 : nd ≤ 12) (hw : 0 ≤ w) (hl : nd + 2 * w ≤ (l.length : Int)) {P : Nat → List UInt8} (hz : ∀ k, k < lnS l → sz (P k) ≤ nd.toNat) (hb : ((l.filter (bdB P (lnS l))).length : Int) ≤ w) (hchk : chkE l = 0) :
    rbE l nd w = 0 ∧ rbS l nd w = ((List.range (lnS l)).map fun k => horner 0 (P k)) ∧ rbH l nd w = (l.filter (bdB P (lnS l))).map (·.1) := by
  have hd : ∀ k, k < lnS l → dcK l nd w k = (trimL (P k), missA (P k) (xsL l) (ysL l k) l.length, 0) := fun k hk =>
    dc_of hc h1 hw hl (hz k hk) (by have := miss_le (l := l) (P := P) hk; omega)
  have hr : rdE l nd = 0 := by unfold rdE; rw [if_pos hchk, if_neg (by omega)]
  have hmem : ∀ m, m ∈ (oddK l nd w (lnS l)).map (·.1) ↔ m ∈ (l.filter (bdB P (lnS l))).map (·.1) := fun m => by
    rw [odd_mem]
    constructor
    · rintro ⟨j, hj, i, hi, e⟩
      rw [hd j hj, missA_filter] at hi
      obtain ⟨q, hq, rfl⟩ := List.mem_map.1 hi
      rw [List.mem_filter] at hq
      have hql := List.mem_range.1 hq.1
      have hqb := of_decide_eq_true hq.2
      rw [xsL_get hql, ysL_get hql] at hqb
      refine List.mem_map.2 ⟨l.getD q (0, [], ()), List.mem_filter.2 ⟨getD_mem _ _ _ hql, bd_iff.2 ⟨j, hj, hqb⟩⟩, ?_⟩
      rw [e]; rfl
    · intro h
      obtain ⟨s, hs, rfl⟩ := List.mem_map.1 h
      rw [List.mem_filter] at hs
      obtain ⟨q, hq, rfl⟩ := getD_mem' (d := (0, [], ())) hs.1
      obtain ⟨j, hj, hne⟩ := bd_iff.1 hs.2
      refine ⟨j, hj, (q : Int), ?_, rfl⟩
      rw [hd j hj, missA_filter]
      refine List.mem_map.2 ⟨q, List.mem_filter.2 ⟨List.mem_range.2 hq, decide_eq_true ?_⟩, rfl⟩
      rw [xsL_get hq, ysL_get hq]; exact hne
  have hpair : ((l.filter (bdB P (lnS l))).map (·.1)).Pairwise (· < ·) := (house_inj hc).sublist ((List.filter_sublist).map _)
  have hperm : ((oddK l nd w (lnS l)).map (·.1)).Perm ((l.filter (bdB P (lnS l))).map (·.1)) :=
    (List.perm_ext_iff_of_nodup (odd_nodup l nd w _) (hpair.imp fun h => by omega)).2 hmem
  have hlen : (oddK l nd w (lnS l)).length = (l.filter (bdB P (lnS l))).length := by
    have := hperm.length_eq
    rwa [List.length_map, List.length_map] at this
  have e : rbE l nd w = 0 := by
    rw [rb0 hr (by omega) (by omega) (by omega) fun k hk => by rw [hd k hk], if_neg (by omega)]
  obtain ⟨e1, e2⟩ := rby e
  refine ⟨e, ?_, ?_⟩
  · rw [e1]
    unfold rbK
    apply List.map_congr_left
    intro k hk
    rw [hd k (List.mem_range.1 hk)]
    exact horner_trim 0 (P k)
  · rw [e2]; exact sortK_of hperm hpair
end Go.Proofs.YtakbedmeieeekaaDoor.S26

namespace Go.Proofs.YtakbedmeieeekaaDoor.S26
open Go Go.Proofs.YtakbedmeieeekaaDoor.Vc Go.Proofs
set_option maxRecDepth 100000

/-! ### trying all choices -/
theorem cd_cases (l : List (Int × List UInt8 × Unit)) (nd w : Int) (b : List (Int × List UInt8 × Unit)) : (cdR l nd w b).2.2 = 0 ↔ cdE l nd w b = 0 := by
  unfold cdR
  split
  · rename_i h; exact ⟨fun _ => h, fun _ => rfl⟩
  · rename_i h; exact ⟨fun g => absurd g (by decide), fun g => absurd g h⟩
theorem cor_sound {l : List (Int × List UInt8 × Unit)} {nd w : Int} : ∀ rest b : List (Int × List UInt8 × Unit), (cor l nd w rest b).2.2 = 0 → ∃ c, c.Sublist rest ∧ ((b ++ c).length : Int) = nd ∧ cor l nd w rest b = cdR l nd w (b ++ c) ∧ cdE l nd w (b ++ c) = 0
  | [], b, h => by
    unfold cor at h ⊢
    split at h
    · rename_i e
      rw [if_pos e]
      exact ⟨[], List.Sublist.refl _, by rw [List.append_nil]; exact e, by rw [List.append_nil], by rw [List.append_nil]; exact (cd_cases _ _ _ _).1 h⟩
    · exact absurd h (by decide)
  | s :: rest, b, h => by
    unfold cor at h ⊢
    split at h
    · rename_i e
      rw [if_pos e]
      exact ⟨[], List.nil_sublist _, by rw [List.append_nil]; exact e, by rw [List.append_nil], by rw [List.append_nil]; exact (cd_cases _ _ _ _).1 h⟩
    · rename_i e
      rw [if_neg e]
      split at h
      · rename_i g
        rw [if_pos g]
        obtain ⟨c, h1, h2, h3, h4⟩ := cor_sound rest (b ++ [s]) h
        have ea : b ++ [s] ++ c = b ++ s :: c := by simp
        rw [ea] at h2 h3 h4
        exact ⟨s :: c, h1.cons_cons s, h2, h3, h4⟩
      · rename_i g
        rw [if_neg g]
        obtain ⟨c, h1, h2, h3, h4⟩ := cor_sound rest b h
        exact ⟨c, h1.cons s, h2, h3, h4⟩
theorem cor_complete {l : List (Int × List UInt8 × Unit)} {nd w : Int} : ∀ rest b c : List (Int × List UInt8 × Unit), c.Sublist rest → ((b ++ c).length : Int) = nd → cdE l nd w (b ++ c) = 0 → (cor l nd w rest b).2.2 = 0
  | [], b, c, h, h1, h2 => by
    have hc := List.sublist_nil.1 h
    subst hc
    rw [List.append_nil] at h1 h2
    rw [cor_at h1]
    exact (cd_cases _ _ _ _).2 h2
  | s :: rest, b, c, h, h1, h2 => by
    unfold cor
    by_cases e : (b.length : Int) = nd
    · rw [if_pos e]
      have hc : c = [] := List.eq_nil_of_length_eq_zero (by rw [List.length_append] at h1; omega)
      rw [hc, List.append_nil] at h2
      exact (cd_cases _ _ _ _).2 h2
    · rw [if_neg e]
      rcases List.sublist_cons_iff.1 h with g | ⟨r, rfl, g⟩
      · split
        · assumption
        · exact cor_complete rest b c g h1 h2
      · have ea : b ++ s :: r = b ++ [s] ++ r := by simp
        rw [ea] at h1 h2
        have := cor_complete rest (b ++ [s]) r g h1 h2
        rw [if_pos this]
        exact this

/-! ### a choice and its polynomials -/
theorem line_of {b : List (Int × List UInt8 × Unit)} (hb : ShOk b) {k : Nat} {p : List UInt8} (hz : sz p ≤ b.length) (hv : ∀ s ∈ b, s.2.1.getD k 0 = horner (pt s.1) p) (x : UInt8) : horner x (lineL (xsL b) (ysL b k)) = horner x p := by
  have : trimL (lineL (xsL b) (ysL b k)) = trimL p := by
    refine poly_unique (xsL b) _ _ hb.nodup (fun y hy => ?_) (lineL_sz _ _) (by rw [xsL_len]; exact hz)
    obtain ⟨j, hj, rfl⟩ := getD_mem' (d := 0) hy
    rw [lineL_val _ _ hb.nodup j hj]
    rw [xsL_len] at hj
    rw [xsL_get hj, ysL_get hj, hv _ (getD_mem (0, [], ()) b j hj)]
  rw [← horner_trim x (lineL _ _), this, horner_trim]
theorem df_bd {b : List (Int × List UInt8 × Unit)} {n : Nat} {P : Nat → List UInt8} (hP : ∀ k, k < n → ∀ x, horner x (lineL (xsL b) (ysL b k)) = horner x (P k)) {s : (Int × List UInt8 × Unit)} (hs : s.2.1.length = n) : dfB b n s = bdB P n s := by
  rw [Bool.eq_iff_iff, bd_iff]
  unfold dfB
  rw [decide_eq_true_eq]
  constructor
  · intro h
    rcases Classical.em (∃ k, k < n ∧ horner (pt s.1) (P k) ≠ s.2.1.getD k 0) with g | g
    · exact g
    · exfalso
      apply h
      refine ext_get (vlB_len _ _ _) hs fun k hk => ?_
      rw [vlB_get hk, hP k hk]
      exact Classical.byContradiction fun e => g ⟨k, hk, e⟩
  · rintro ⟨k, hk, h⟩ e
    apply h
    rw [← e, vlB_get hk, hP k hk]
theorem dfF_bd {l b : List (Int × List UInt8 × Unit)} (hc : ShOk l) {P : Nat → List UInt8} (hP : ∀ k, k < lnS l → ∀ x, horner x (lineL (xsL b) (ysL b k)) = horner x (P k)) : dfF b (lnS l) l = (l.filter (bdB P (lnS l))).map (·.1) := by
  unfold dfF
  rw [List.filter_congr fun s hs => df_bd hP (hc.bytes s hs)]
theorem nodup_le : ∀ (xs ys : List Int), xs.Nodup → (∀ x ∈ xs, x ∈ ys) → xs.length ≤ ys.length
  | [], _, _, _ => Nat.zero_le _
  | x :: xs, ys, hn, h => by
    rw [List.nodup_cons] at hn
    have hx := h x (by simp)
    have := nodup_le xs (ys.erase x) hn.2 fun y hy => (List.mem_erase_of_ne (fun e => by subst e; exact hn.1 hy)).2 (h y (by simp [hy]))
    rw [List.length_erase_of_mem hx] at this
    have : 0 < ys.length := List.length_pos_of_mem hx
    rw [List.length_cons]; omega
theorem filter_split {α : Type} (f : α → Bool) : ∀ l : List α, (l.filter f).length + (l.filter fun x => !f x).length = l.length
  | [] => rfl
  | x :: l => by
    have := filter_split f l
    rw [List.filter_cons, List.filter_cons]
    cases f x <;> simp <;> omega
/-- What a choice that will do gives, is what decoding gives. -/
theorem choice_rb {l b : List (Int × List UInt8 × Unit)} (hc : ShOk l) (hchk : chkE l = 0) {nd w : Int} (h1 : 1 ≤ nd) (h12 : nd ≤ 12) (hw : 0 ≤ w) (hl : nd + 2 * w ≤ (l.length : Int)) (hbl : (b.length : Int) = nd) (h : cdE l nd w b = 0) : cdR l nd w b = (rbS l nd w, rbH l nd w, rbE l nd w) := by
  have hd := dfF_bd (l := l) (b := b) hc (P := fun k => lineL (xsL b) (ysL b k)) fun _ _ _ => rfl
  have hn : ((l.filter (bdB (fun k => lineL (xsL b) (ysL b k)) (lnS l))).length : Int) ≤ w := by
    unfold cdE at h
    rw [hd, List.length_map] at h
    split at h
    · exact absurd h (by decide)
    · omega
  obtain ⟨e, e1, e2⟩ := rob_poly hc h1 h12 hw hl (P := fun k => lineL (xsL b) (ysL b k)) (fun k _ => by have := lineL_sz (xsL b) (ysL b k); rw [xsL_len] at this; omega) hn hchk
  unfold cdR
  rw [if_pos h, e, e1, e2, hd]
  rfl
/-- Where decoding succeeds, there is such a choice. -/
theorem rb_choice {l : List (Int × List UInt8 × Unit)} (hc : ShOk l) {nd w : Int} (h1 : 1 ≤ nd) (h12 : nd ≤ 12) (hw : 0 ≤ w) (hl : nd + 2 * w ≤ (l.length : Int)) (r : rdE l nd = 0) (h : rbE l nd w = 0) : ∃ b, b.Sublist l ∧ (b.length : Int) = nd ∧ cdE l nd w b = 0 := by
  have hall : ∀ k, k < lnS l → (dcK l nd w k).2.2 = 0 := fun k hk => Classical.byContradiction fun g => by
    rw [rb17 r (by omega) (by omega) (by omega) hk g] at h; exact absurd h (by decide)
  rw [rb0 r (by omega) (by omega) (by omega) hall] at h
  have hw2 : ((oddK l nd w (lnS l)).length : Int) ≤ w := by
    split at h
    · exact absurd h (by decide)
    · omega
  have hP : ∀ k, k < lnS l → sz (dcK l nd w k).1 ≤ nd.toNat ∧ (dcK l nd w k).2.1 = missA (dcK l nd w k).1 (xsL l) (ysL l k) l.length := fun k hk => by
    have hlen := hc.len
    rcases decT_cases (xsL l) (ysL l k) (by rw [xsL_len]; omega) (nd - 1) w with ⟨e, he, hne⟩ | ⟨p, he, ht, hdg, _, _⟩
    · have := hall k hk
      unfold dcK at this
      rw [he] at this
      exact absurd this hne
    · unfold dcK
      rw [he]
      refine ⟨?_, by rw [xsL_len]⟩
      show sz p ≤ _
      rw [degL_sz] at hdg
      omega
  have hbad : ((l.filter (bdB (fun k => (dcK l nd w k).1) (lnS l))).length : Int) ≤ w := by
    have hnd : ((l.filter (bdB (fun k => (dcK l nd w k).1) (lnS l))).map fun s : (Int × List UInt8 × Unit) => s.1).Nodup := ((house_inj hc).sublist ((List.filter_sublist).map _)).imp fun h => by omega
    have := nodup_le ((l.filter (bdB (fun k => (dcK l nd w k).1) (lnS l))).map fun s : (Int × List UInt8 × Unit) => s.1) ((oddK l nd w (lnS l)).map fun e : Int × Bool => e.1) hnd fun m hm => by
      obtain ⟨s, hs, rfl⟩ := List.mem_map.1 hm
      rw [List.mem_filter] at hs
      obtain ⟨q, hq, rfl⟩ := getD_mem' (d := (0, [], ())) hs.1
      obtain ⟨j, hj, hne⟩ := bd_iff.1 hs.2
      rw [odd_mem]
      refine ⟨j, hj, (q : Int), ?_, rfl⟩
      rw [(hP j hj).2, missA_filter]
      refine List.mem_map.2 ⟨q, List.mem_filter.2 ⟨List.mem_range.2 hq, decide_eq_true ?_⟩, rfl⟩
      rw [xsL_get hq, ysL_get hq]; exact hne
    rw [List.length_map, List.length_map] at this
    omega
  have hsp := filter_split (bdB (fun k => (dcK l nd w k).1) (lnS l)) l
  obtain ⟨g, hg⟩ : ∃ g, g = l.filter fun s => !bdB (fun k => (dcK l nd w k).1) (lnS l) s := ⟨_, rfl⟩
  rw [← hg] at hsp
  have hgs : (g.take nd.toNat).Sublist l := (List.take_sublist _ _).trans (by rw [hg]; exact List.filter_sublist)
  have hbl : (g.take nd.toNat).length = nd.toNat := by rw [List.length_take]; omega
  have hbc := chk0 (chk_sub hc hgs)
  have hline : ∀ k, k < lnS l → ∀ x, horner x (lineL (xsL (g.take nd.toNat)) (ysL (g.take nd.toNat) k)) = horner x (dcK l nd w k).1 := fun k hk x => by
    refine line_of hbc (by rw [hbl]; exact (hP k hk).1) (fun s hs => ?_) x
    have hs' := List.mem_of_mem_take hs
    rw [hg, List.mem_filter] at hs'
    refine Classical.byContradiction fun e => ?_
    have := (bd_iff (P := fun k => (dcK l nd w k).1) (n := lnS l) (s := s)).2 ⟨k, hk, fun g => e g.symm⟩
    rw [this] at hs'
    exact absurd hs'.2 (by decide)
  refine ⟨g.take nd.toNat, hgs, by omega, ?_⟩
  unfold cdE
  rw [dfF_bd hc hline, List.length_map, if_neg (by omega)]
theorem rr_eq (l : List (Int × List UInt8 × Unit)) (nd w : Int) : rrR l nd w = (rbS l nd w, rbH l nd w, rbE l nd w) := by
  have key : ∀ e : Int, e ≠ 0 → rbE l nd w = e → (([], [], e) : List UInt8 × List Int × Int) = (rbS l nd w, rbH l nd w, rbE l nd w) := fun e he hr => by
    obtain ⟨a, b⟩ := rbn (l := l) (nd := nd) (w := w) (by rw [hr]; exact he)
    rw [a, b, hr]
  unfold rrR
  split
  · rename_i r
    obtain ⟨r1, r2, r3⟩ := rd0 r
    have hc := chk0 r1
    have hlen := hc.len
    split
    · rename_i h
      exact key 3 (by decide) (by unfold rbE; rw [if_pos r, if_pos h])
    · rename_i h
      split
      · rename_i g
        exact key 29 (by decide) (by unfold rbE; rw [if_pos r, if_neg h, if_pos (by omega)])
      · rename_i g
        by_cases e : (cor l nd w l []).2.2 = 0
        · obtain ⟨c, _, hl, he, hz⟩ := cor_sound l [] e
          rw [List.nil_append] at hl he hz
          rw [he]
          exact choice_rb hc r1 r2 r3 (by omega) (by omega) hl hz
        · rw [cor_no l [] e]
          have hne : rbE l nd w ≠ 0 := fun h0 => by
            obtain ⟨b, hb, hbl, hbz⟩ := rb_choice hc r2 r3 (by omega) (by omega) r h0
            exact e (cor_complete l [] b hb (by rw [List.nil_append]; exact hbl) (by rw [List.nil_append]; exact hbz))
          refine key 17 (by decide) ?_
          unfold rbE at hne ⊢
          rw [if_pos r, if_neg h, if_neg (by omega)] at hne ⊢
          split
          · rename_i h1
            rw [if_pos h1] at hne
            split
            · rfl
            · rename_i h2; rw [if_neg h2] at hne; exact absurd rfl hne
          · rfl
  · rename_i r
    exact key _ r (if_neg r)
theorem rbE_rd {l : List (Int × List UInt8 × Unit)} {nd w : Int} (h : rbE l nd w = 0) : rdE l nd = 0 := by
  unfold rbE at h
  split at h
  · assumption
  · exact h
theorem rbH_len (l : List (Int × List UInt8 × Unit)) (nd w : Int) : (rbH l nd w).length ≤ 49152 := by
  unfold rbH
  split
  · rename_i h
    have hc := chk0 (rd0 (rbE_rd h)).1
    have h1 := odd_len (l := l) (nd := nd) (w := w) hc.len (lnS l)
    have h2 := hc.max
    unfold sortK
    rw [(List.mergeSort_perm _ _).length_eq, List.length_map]
    omega
  · exact Nat.zero_le _
end Go.Proofs.YtakbedmeieeekaaDoor.S26

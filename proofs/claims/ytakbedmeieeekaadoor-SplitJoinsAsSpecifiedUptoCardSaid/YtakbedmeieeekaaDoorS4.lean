/- Texts of this claim: S26.C6, S26.L1, S26.L2, S26.Pw, S26.Cd0. -/
import Derived.Test.YtakbedmeieeekaaDoorS3
import Derived.Test.YtakbedmeieeekaaDoorS1
import Derived.Test.YtakbedmeieeekaaDoorVc8
import Derived.Test.YtakbedmeieeekaaDoorCards
import Derived.Test.YtakbedmeieeekaaDoorTie
import Derived.WalkKit
import Derived.ProofKit
import Derived.OpenShut
import Derived.Deep.DeepHandedRow
import Derived.Lib.LaidTab
set_option linter.unusedVariables false
set_option linter.unusedSimpArgs false
namespace Go.Proofs.YtakbedmeieeekaaDoor.S26
open Go Go.Proofs.YtakbedmeieeekaaDoor.Vc Go.Proofs
set_option maxRecDepth 100000
set_option linter.unusedVariables false

def sRdf : List V → Option (Prop × V × List Blk)
  | [.sl false (.cons (.int .i64) (.cons .str .nil)) l, .sl false (.cons (.int .i64) (.cons .str .nil)) b, .int .i64 nd] => some (l.length ≤ 1048576 ∧ 1 ≤ nd ∧ nd ≤ 12 ∧ (b.length : Int) = nd ∧ (∀ x ∈ b, x.2.1.length = lnS b) ∧ (∀ s ∈ b, knw s.1) ∧ lnS b ≤ 1048576 ∧ (∀ s ∈ l, knw s.1), .own (.int .i64) 0, [.row true (.int .i64) (dfF b (lnS b) l)])
  | _ => none
set_option maxHeartbeats 1000000 in
theorem bRdf (l : List (Int × (List UInt8 × Unit))) (b : List (Int × (List UInt8 × Unit))) (nd : Int) (hp0 : l.length ≤ 1048576) (hp1 : 1 ≤ nd) (hp2 : nd ≤ 12) (hp3 : (b.length : Int) = nd) (hp4 : (∀ x ∈ b, x.2.1.length = lnS b)) (hp5 : (∀ s ∈ b, knw s.1)) (hp6 : lnS b ≤ 1048576) (hp7 : (∀ s ∈ l, knw s.1)) : bodyP (En CRFw tys G6 QCo2) Tryd.f73 [.o (.int .i64)] [.sl false (.cons (.int .i64) (.cons .str .nil)) l, .sl false (.cons (.int .i64) (.cons .str .nil)) b, .int .i64 nd] (.own (.int .i64) 0) [.row true (.int .i64) (dfF b (lnS b) l)] := by
  have htk : b.take nd.toNat = b := List.take_of_length_le (by omega)
  refine ⟨0, [(0, .k), (1, .k), (2, .k), (7, .o (.int .i64)), (8, .k)], fun nM vs H => ∃ (k : Nat), k ≤ l.length ∧ nM = l.length - k ∧ vs = [.sl false (.cons (.int .i64) (.cons .str .nil)) l, .sl false (.cons (.int .i64) (.cons .str .nil)) b, .int .i64 nd, .own (.int .i64) 0, .int .i64 (k : Int)] ∧ H = [.row true (.int .i64) (dfF b (lnS b) (l.take k))], ⟨rfl, l.length, 0, by omega, by omega, rfl, rfl⟩, ?_⟩
  rintro nM vs H ⟨k, hc1_0, rfl, rfl, rfl⟩
  have hdl := dfF_len b (lnS b) (l.take k)
  rw [List.length_take] at hdl
  refine ⟨fun h0 => ?_, fun h0 => ?_⟩
  · replace h0 : (k : Int) < (l.length : Int) := h0
    have hk : k < l.length := by omega
    obtain ⟨a1, a2⟩ := hp7 _ (getD_mem (0, [], ()) l k hk)
    refine ⟨⟨by show (0 : Int) ≤ (k : Int); omega, by show (k : Int) < (l.length : Int); omega⟩, ⟨by show (-9223372036854775808 : Int) ≤ (((l.getD k (0, ([], ()))).1) + 1); omega, by show (((l.getD k (0, ([], ()))).1) + 1) ≤ (9223372036854775807 : Int); omega⟩, rfl, ⟨by show b.length ≤ 1048576; first | omega | assumption, by show 1 ≤ nd; first | omega | assumption, by show nd ≤ (b.length : Int); first | omega | assumption, hp4, hp5, by show lnS b ≤ 1048576; first | omega | assumption⟩, ⟨by show (0 : Int) ≤ (k : Int); omega, by show (k : Int) < (l.length : Int); omega⟩, fun h1 => ?_, fun h1 => ?_⟩
    · replace h1 : (vlB (b.take nd.toNat) (lnS b) (UInt8.ofNat ((((l.getD k (0, ([], ()))).1) + 1) % 256).toNat)) ≠ (((l.getD k (0, ([], ()))).2).1) := h1
      rw [htk] at h1
      refine ⟨⟨by show (0 : Int) ≤ (k : Int); omega, by show (k : Int) < (l.length : Int); omega⟩, rfl, ⟨rfl, rfl⟩, by show (dfF b (lnS b) (l.take k)).length + ([(l.getD k (0, ([], ()))).1] : List Int).length ≤ 1000000000; simp only [List.length_cons, List.length_nil]; omega, ⟨by show (-9223372036854775808 : Int) ≤ ((k : Int) + 1); omega, by show ((k : Int) + 1) ≤ (9223372036854775807 : Int); omega⟩, ?_⟩
      first
      | exact ⟨rfl, l.length - (k + 1), by omega, k + 1, by omega, rfl, rfl, by rw [dfF_yes hk h1]; rfl⟩
      | exact ⟨rfl, l.length - (k + 1), by omega, k + 1, by omega, rfl, rfl, by rw [dfF_no hk h1]; rfl⟩
    · replace h1 : ¬ ((vlB (b.take nd.toNat) (lnS b) (UInt8.ofNat ((((l.getD k (0, ([], ()))).1) + 1) % 256).toNat)) ≠ (((l.getD k (0, ([], ()))).2).1)) := h1
      rw [htk] at h1
      refine ⟨⟨by show (-9223372036854775808 : Int) ≤ ((k : Int) + 1); omega, by show ((k : Int) + 1) ≤ (9223372036854775807 : Int); omega⟩, ?_⟩
      first
      | exact ⟨rfl, l.length - (k + 1), by omega, k + 1, by omega, rfl, rfl, by rw [dfF_yes hk h1]; rfl⟩
      | exact ⟨rfl, l.length - (k + 1), by omega, k + 1, by omega, rfl, rfl, by rw [dfF_no hk h1]; rfl⟩
  · replace h0 : ¬ ((k : Int) < (l.length : Int)) := h0
    rw [show dfF b (lnS b) l = dfF b (lnS b) (l.take k) by rw [List.take_of_length_le (by omega)]]
    exact ⟨rfl, rfl, rfl, rfl⟩
def CRdf : List (Nat × Con) := (73, pureC [.v (.sl (.cons (.int .i64) (.cons .str .nil))), .v (.sl (.cons (.int .i64) (.cons .str .nil))), .v (.int .i64)] sRdf) :: CRFw
theorem kRdf : Known Tryd.prog (En CRdf tys G6 QCo2) := kRFw.add Tryd.func73 Tryd.call73 [.o (.int .i64)] fun ds p v bs h hp => by
  unfold sRdf at h
  split at h <;> simp only [Option.some.injEq, Prod.mk.injEq, reduceCtorEq] at h
  obtain ⟨rfl, rfl, rfl⟩ := h
  exact bRdf _ _ _ hp.1 hp.2.1 hp.2.2.1 hp.2.2.2.1 hp.2.2.2.2.1 hp.2.2.2.2.2.1 hp.2.2.2.2.2.2.1 hp.2.2.2.2.2.2.2
def sRco : List V → Option (Prop × V × List Blk)
  | [.sl false (.cons (.int .i64) (.cons .str .nil)) l, .int .i64 nd, .int .i64 w, .sl false (.cons (.int .i64) (.cons .str .nil)) b, .int .i64 fr] => some (chkE l = 0 ∧ 1 ≤ nd ∧ nd ≤ 12 ∧ 0 ≤ w ∧ (∀ s ∈ b, s ∈ l) ∧ (b.length : Int) ≤ nd ∧ 0 ≤ fr ∧ fr ≤ (l.length : Int), .agg [.str ((cor l nd w (l.drop fr.toNat) b).1), .own (.int .i64) 0, .int .i64 ((cor l nd w (l.drop fr.toNat) b).2.2)], [.row true (.int .i64) ((cor l nd w (l.drop fr.toNat) b).2.1)])
  | _ => none
def mRco : List V → Nat
  | [.sl false (.cons (.int .i64) (.cons .str .nil)) l, .int .i64 nd, .int .i64 w, .sl false (.cons (.int .i64) (.cons .str .nil)) b, .int .i64 fr] => l.length + 1 - fr.toNat
  | _ => 0
set_option maxHeartbeats 2000000 in
theorem bRco (l : List (Int × (List UInt8 × Unit))) (nd : Int) (w : Int) (b : List (Int × (List UInt8 × Unit))) (fr : Int) (hp0 : chkE l = 0) (hp1 : 1 ≤ nd) (hp2 : nd ≤ 12) (hp3 : 0 ≤ w) (hp4 : (∀ s ∈ b, s ∈ l)) (hp5 : (b.length : Int) ≤ nd) (hp6 : 0 ≤ fr) (hp7 : fr ≤ (l.length : Int)) : bodyP (En ((51, pureC [.v (.sl (.cons (.int .i64) (.cons .str .nil))), .v (.int .i64), .v (.int .i64), .v (.sl (.cons (.int .i64) (.cons .str .nil))), .v (.int .i64)] (recS mRco (l.length + 1 - fr.toNat) sRco)) :: CRdf) tys G6 QCo2) Tryd.f51 [.k, .o (.int .i64), .k] [.sl false (.cons (.int .i64) (.cons .str .nil)) l, .int .i64 nd, .int .i64 w, .sl false (.cons (.int .i64) (.cons .str .nil)) b, .int .i64 fr] (.agg [.str ((cor l nd w (l.drop fr.toNat) b).1), .own (.int .i64) 0, .int .i64 ((cor l nd w (l.drop fr.toNat) b).2.2)]) [.row true (.int .i64) ((cor l nd w (l.drop fr.toNat) b).2.1)] := by
  have hc := chk0 hp0
  have hcl := hc.len
  have hcm := hc.max
  have hcb := hc.bytes
  have hch := hc.house
  have htk : (b.length : Int) = nd → b.take nd.toNat = b := fun h => List.take_of_length_le (by omega)
  refine ⟨fun h0 => ?_, fun h0 => ?_⟩
  · replace h0 : (b.length : Int) = nd := h0
    have hlb : lnS b = lnS l := hcb _ (hp4 _ (getD_mem (0, [], ()) b 0 (by omega)))
    have hbe : ∀ x ∈ b, x.2.1.length = lnS b := fun x hx => by rw [hlb]; exact hcb x (hp4 x hx)
    have hbk : ∀ s ∈ b, knw s.1 := fun s hs => hch s (hp4 s hs)
    refine ⟨rfl, ⟨by show l.length ≤ 1048576; first | omega | assumption, by show 1 ≤ nd; first | omega | assumption, by show nd ≤ 12; first | omega | assumption, by show (b.length : Int) = nd; first | omega | assumption, hbe, hbk, by show lnS b ≤ 1048576; first | omega | assumption, hch⟩, fun h1 => ?_, fun h1 => ?_⟩
    · replace h1 : w < (((dfF b (lnS b) l).length : Nat) : Int) := h1
      refine ⟨⟨rfl, rfl, rfl, Nat.le_of_ble_eq_true rfl⟩, ?_⟩
      have e : cor l nd w (l.drop fr.toNat) b = ([], [], 17) := by rw [cor_at h0, cdR, if_neg (by unfold cdE; rw [if_pos (by rw [← hlb]; exact h1)]; decide)]
      rw [e]
      exact ⟨rfl, rfl, rfl, rfl⟩
    · replace h1 : ¬ (w < (((dfF b (lnS b) l).length : Nat) : Int)) := h1
      refine ⟨rfl, ⟨by show b.length ≤ 1048576; first | omega | assumption, by show 1 ≤ nd; first | omega | assumption, by show nd ≤ (b.length : Int); first | omega | assumption, hbe, hbk, by show lnS b ≤ 1048576; first | omega | assumption⟩, ⟨rfl, rfl, rfl, Nat.le_of_ble_eq_true rfl⟩, ?_⟩
      have e : cor l nd w (l.drop fr.toNat) b = (vlB (b.take nd.toNat) (lnS b) 0, dfF b (lnS b) l, 0) := by rw [htk h0, hlb, cor_at h0, cdR, if_pos (by unfold cdE; rw [if_neg (by rw [← hlb]; exact h1)])]
      rw [e]
      exact ⟨rfl, rfl, rfl, rfl⟩
  · replace h0 : ¬ ((b.length : Int) = nd) := h0
    refine ⟨1, [(0, .k), (1, .k), (2, .k), (3, .k), (10, .k), (12, .k)], fun nM vs H => ∃ (k : Nat), fr ≤ (k : Int) ∧ k ≤ l.length ∧ (cor l nd w (l.drop fr.toNat) b) = (cor l nd w (l.drop k) b) ∧ nM = l.length - k ∧ vs = [.sl false (.cons (.int .i64) (.cons .str .nil)) l, .int .i64 nd, .int .i64 w, .sl false (.cons (.int .i64) (.cons .str .nil)) b, .ptr 0 1 0 0, .int .i64 (k : Int)] ∧ H = [.cells [.str ([]), .nils, .int .i64 0]], ⟨rfl, l.length - fr.toNat, fr.toNat, by omega, by omega, rfl, by omega, by rw [Int.toNat_of_nonneg hp6]; rfl, rfl⟩, ?_⟩
    rintro nM vs H ⟨k, hc1_0, hc1_1, hc1_2, rfl, rfl, rfl⟩
    refine ⟨fun h2 => ?_, fun h2 => ?_⟩
    · replace h2 : (k : Int) < (l.length : Int) := h2
      have hk : k < l.length := by omega
      have ek : ((k : Int) + 1).toNat = k + 1 := by omega
      refine ⟨by kernel_rfl, ⟨rfl, rfl⟩, by show ([] : List (Int × (List UInt8 × Unit))).length + b.length ≤ 1000000000; simp only [List.length_cons, List.length_nil]; omega, ⟨by show (0 : Int) ≤ (k : Int); omega, by show (k : Int) < (l.length : Int); omega⟩, rfl, ⟨rfl, rfl⟩, by show (([] : List (Int × (List UInt8 × Unit))) ++ b).length + ([((l.getD k (0, ([], ()))).1, ((l.getD k (0, ([], ()))).2).1, ())] : List (Int × (List UInt8 × Unit))).length ≤ 1000000000; simp only [List.length_append, List.length_cons, List.length_nil]; omega, ⟨by show (-9223372036854775808 : Int) ≤ ((k : Int) + 1); omega, by show ((k : Int) + 1) ≤ (9223372036854775807 : Int); omega⟩, rfl, rfl, rfl, ⟨⟨by show chkE l = 0; first | omega | assumption, by show 1 ≤ nd; first | omega | assumption, by show nd ≤ 12; first | omega | assumption, by show 0 ≤ w; first | omega | assumption, fun s hs => by rcases List.mem_append.1 hs with h | h; (exact hp4 s h); (rw [List.mem_singleton] at h; rw [h]; exact getD_mem (0, [], ()) l k hk), by show (((([] : List (Int × (List UInt8 × Unit))) ++ b) ++ ([((l.getD k (0, ([], ()))).1, ((l.getD k (0, ([], ()))).2).1, ())] : List (Int × (List UInt8 × Unit)))).length : Int) ≤ nd; first | omega | assumption | (simp only [List.length_cons, List.length_nil, List.length_append, List.length_take, List.length_drop, List.length_set, List.length_replicate]; omega), by show 0 ≤ ((k : Int) + 1); first | omega | assumption, by show ((k : Int) + 1) ≤ (l.length : Int); first | omega | assumption⟩, by show l.length + 1 - ((k : Int) + 1).toNat < l.length + 1 - fr.toNat; omega⟩, ⟨rfl, rfl, rfl, Nat.le_of_ble_eq_true rfl⟩, fun h3 => ?_, fun h3 => ?_⟩
      · replace h3 : ((cor l nd w (l.drop ((k : Int) + 1).toNat) ((([] : List (Int × (List UInt8 × Unit))) ++ b) ++ ([((l.getD k (0, ([], ()))).1, ((l.getD k (0, ([], ()))).2).1, ())] : List (Int × (List UInt8 × Unit))))).2.2) = 0 := h3
        have e : cor l nd w (l.drop fr.toNat) b = cor l nd w (l.drop ((k : Int) + 1).toNat) (b ++ [l.getD k (0, [], ())]) := by (replace h3 : (cor l nd w (l.drop (k + 1)) (b ++ [l.getD k (0, [], ())])).2.2 = 0 := by rw [← ek]; exact h3); rw [hc1_2, ek, cor_next h0 hk, if_pos h3]
        refine ⟨⟨rfl, rfl, rfl, Nat.le_of_ble_eq_true rfl⟩, ?_⟩
        rw [e]
        exact ⟨rfl, rfl, rfl, rfl⟩
      · replace h3 : ¬ (((cor l nd w (l.drop ((k : Int) + 1).toNat) ((([] : List (Int × (List UInt8 × Unit))) ++ b) ++ ([((l.getD k (0, ([], ()))).1, ((l.getD k (0, ([], ()))).2).1, ())] : List (Int × (List UInt8 × Unit))))).2.2) = 0) := h3
        have hn : cor l nd w (l.drop fr.toNat) b = cor l nd w (l.drop (k + 1)) b := by (replace h3 : ¬ (cor l nd w (l.drop (k + 1)) (b ++ [l.getD k (0, [], ())])).2.2 = 0 := by rw [← ek]; exact h3); rw [hc1_2, cor_next h0 hk, if_neg h3]
        refine ⟨⟨by show (-9223372036854775808 : Int) ≤ ((k : Int) + 1); omega, by show ((k : Int) + 1) ≤ (9223372036854775807 : Int); omega⟩, ?_⟩
        exact ⟨rfl, l.length - (k + 1), by omega, k + 1, by omega, by omega, hn, rfl, rfl, rfl⟩
    · replace h2 : ¬ ((k : Int) < (l.length : Int)) := h2
      refine ⟨⟨rfl, rfl, rfl, Nat.le_of_ble_eq_true rfl⟩, ?_⟩
      have e : cor l nd w (l.drop fr.toNat) b = ([], [], 17) := by rw [hc1_2, List.drop_of_length_le (by omega), cor, if_neg h0]
      rw [e]
      exact ⟨rfl, rfl, rfl, rfl⟩
def CRco : List (Nat × Con) := (51, pureC [.v (.sl (.cons (.int .i64) (.cons .str .nil))), .v (.int .i64), .v (.int .i64), .v (.sl (.cons (.int .i64) (.cons .str .nil))), .v (.int .i64)] sRco) :: CRdf
theorem kRco : Known Tryd.prog (En CRco tys G6 QCo2) := kRdf.addRec Tryd.func51 Tryd.call51 [.k, .o (.int .i64), .k] mRco fun ds p v bs h hp => by
  unfold sRco at h
  split at h <;> simp only [Option.some.injEq, Prod.mk.injEq, reduceCtorEq] at h
  obtain ⟨rfl, rfl, rfl⟩ := h
  exact bRco _ _ _ _ _ hp.1 hp.2.1 hp.2.2.1 hp.2.2.2.1 hp.2.2.2.2.1 hp.2.2.2.2.2.1 hp.2.2.2.2.2.2.1 hp.2.2.2.2.2.2.2
def sRRo : List V → Option (Prop × V × List Blk)
  | [.sl false (.cons (.int .i64) (.cons .str .nil)) l, .int .i64 nd, .int .i64 w] => some (l.length ≤ 1048576, .agg [.str ((rrR l nd w).1), .own (.int .i64) 0, .int .i64 ((rrR l nd w).2.2)], [.row true (.int .i64) ((rrR l nd w).2.1)])
  | _ => none
set_option maxHeartbeats 1000000 in
theorem bRRo (l : List (Int × (List UInt8 × Unit))) (nd : Int) (w : Int) (hp0 : l.length ≤ 1048576) : bodyP (En CRco tys G6 QCo2) Tryd.f28 [.k, .o (.int .i64), .k] [.sl false (.cons (.int .i64) (.cons .str .nil)) l, .int .i64 nd, .int .i64 w] (.agg [.str ((rrR l nd w).1), .own (.int .i64) 0, .int .i64 ((rrR l nd w).2.2)]) [.row true (.int .i64) ((rrR l nd w).2.1)] := by
  refine ⟨rfl, by show l.length ≤ 1048576; first | omega | assumption, fun h0 => ?_, fun h0 => ?_⟩
  · replace h0 : (rdE l nd) ≠ 0 := h0
    refine ⟨⟨rfl, rfl, rfl, Nat.le_of_ble_eq_true rfl⟩, ?_⟩
    rw [show rrR l nd w = ([], [], rdE l nd) by unfold rrR; rw [if_neg h0]]
    exact ⟨rfl, rfl, rfl, rfl⟩
  · replace h0 : ¬ ((rdE l nd) ≠ 0) := h0
    have r := Classical.not_not.1 h0
    obtain ⟨r1, r2, r3⟩ := rd0 r
    have hrl := (chk0 r1).len
    refine ⟨fun h1 => ?_, fun h1 => ?_⟩
    · replace h1 : w < 0 := h1
      refine ⟨⟨rfl, rfl, rfl, Nat.le_of_ble_eq_true rfl⟩, ?_⟩
      rw [show rrR l nd w = ([], [], 3) by unfold rrR; rw [if_pos r, if_pos h1]]
      exact ⟨rfl, rfl, rfl, rfl⟩
    · replace h1 : ¬ (w < 0) := h1
      refine ⟨fun h2 => ?_, fun h2 => ?_⟩
      · replace h2 : ¬ (12 < w) := h2
        refine ⟨⟨by show (-9223372036854775808 : Int) ≤ (2 * w); omega, by show (2 * w) ≤ (9223372036854775807 : Int); omega⟩, ⟨by show (-9223372036854775808 : Int) ≤ (nd + (2 * w)); omega, by show (nd + (2 * w)) ≤ (9223372036854775807 : Int); omega⟩, fun h3 => ?_, fun h3 => ?_⟩
        · replace h3 : (l.length : Int) < (nd + (2 * w)) := h3
          refine ⟨⟨rfl, rfl, rfl, Nat.le_of_ble_eq_true rfl⟩, ?_⟩
          rw [show rrR l nd w = ([], [], 29) by unfold rrR; rw [if_pos r, if_neg h1, if_pos (.inr h3)]]
          exact ⟨rfl, rfl, rfl, rfl⟩
        · replace h3 : ¬ ((l.length : Int) < (nd + (2 * w))) := h3
          refine ⟨rfl, rfl, rfl, ⟨by show chkE l = 0; first | omega | assumption, by show 1 ≤ nd; first | omega | assumption, by show nd ≤ 12; first | omega | assumption, by show 0 ≤ w; first | omega | assumption, (fun s hs => by cases hs), by show (([]).length : Int) ≤ nd; first | omega | assumption | (simp only [List.length_cons, List.length_nil, List.length_append, List.length_take, List.length_drop, List.length_set, List.length_replicate]; omega), by omega, by show 0 ≤ (l.length : Int); first | omega | assumption⟩, ⟨rfl, rfl, rfl, Nat.le_of_ble_eq_true rfl⟩, ?_⟩
          rw [show rrR l nd w = cor l nd w (l.drop (0 : Int).toNat) [] by unfold rrR; rw [if_pos r, if_neg h1, if_neg (by omega)]; rfl]
          exact ⟨rfl, rfl, rfl, rfl⟩
      · replace h2 : 12 < w := h2
        refine ⟨⟨rfl, rfl, rfl, Nat.le_of_ble_eq_true rfl⟩, ?_⟩
        rw [show rrR l nd w = ([], [], 29) by unfold rrR; rw [if_pos r, if_neg h1, if_pos (.inl h2)]]
        exact ⟨rfl, rfl, rfl, rfl⟩
def CRRo : List (Nat × Con) := (28, pureC [.v (.sl (.cons (.int .i64) (.cons .str .nil))), .v (.int .i64), .v (.int .i64)] sRRo) :: CRco
theorem kRRo : Known Tryd.prog (En CRRo tys G6 QCo2) := kRco.add Tryd.func28 Tryd.call28 [.k, .o (.int .i64), .k] fun ds p v bs h hp => by
  unfold sRRo at h
  split at h <;> simp only [Option.some.injEq, Prod.mk.injEq, reduceCtorEq] at h
  obtain ⟨rfl, rfl, rfl⟩ := h
  exact bRRo _ _ _ hp
end Go.Proofs.YtakbedmeieeekaaDoor.S26

namespace Go.Proofs.YtakbedmeieeekaaDoor.S26
open Go Go.Proofs.YtakbedmeieeekaaDoor.Vc Go.Proofs
set_option maxRecDepth 100000
set_option linter.unusedVariables false

def sShx : List V → Option (Prop × V × List Blk)
  | [.int .i64 h, .str s] => some (True, .agg [.int .i64 (h), .str (s)], [])
  | _ => none
set_option maxHeartbeats 1000000 in
theorem bShx (h : Int) (s : List UInt8)  : bodyP (En CRRo tys G6 QCo2) Tryd.f30 [.k, .k] [.int .i64 h, .str s] (.agg [.int .i64 (h), .str (s)]) [] := by
  refine ⟨⟨rfl, rfl, rfl, Nat.le_of_ble_eq_true rfl⟩, ?_⟩
  exact ⟨rfl, rfl, rfl, rfl⟩
def CShx : List (Nat × Con) := (30, pureC [.v (.int .i64), .v .str] sShx) :: CRRo
theorem kShx : Known Tryd.prog (En CShx tys G6 QCo2) := kRRo.add Tryd.func30 Tryd.call30 [.k, .k] fun ds p v bs h hp => by
  unfold sShx at h
  split at h <;> simp only [Option.some.injEq, Prod.mk.injEq, reduceCtorEq] at h
  obtain ⟨rfl, rfl, rfl⟩ := h
  exact bShx _ _
def sSom : List V → Option (Prop × V × List Blk)
  | [.sl false (.cons (.int .i64) (.cons .str .nil)) l, .int .u16 s] => some (l.length ≤ 16 ∧ 0 ≤ s, .own (.cons (.int .i64) (.cons .str .nil)) 0, [.row true (.cons (.int .i64) (.cons .str .nil)) (smK l s l.length)])
  | _ => none
set_option maxHeartbeats 1000000 in
theorem bSom (l : List (Int × (List UInt8 × Unit))) (s : Int) (hp0 : l.length ≤ 16) (hp1 : 0 ≤ s) : bodyP (En CShx tys G6 QCo2) Tryd.f29 [.o (.cons (.int .i64) (.cons .str .nil))] [.sl false (.cons (.int .i64) (.cons .str .nil)) l, .int .u16 s] (.own (.cons (.int .i64) (.cons .str .nil)) 0) [.row true (.cons (.int .i64) (.cons .str .nil)) (smK l s l.length)] := by
  refine ⟨0, [(1, .k), (5, .o (.cons (.int .i64) (.cons .str .nil))), (8, .k), (9, .k), (10, .k)], fun nM vs H => ∃ (k : Nat), k ≤ l.length ∧ nM = l.length - k ∧ vs = [.int .u16 s, .own (.cons (.int .i64) (.cons .str .nil)) 0, .sl false (.cons (.int .i64) (.cons .str .nil)) l, .int .i64 (l.length : Int), .int .i64 (k : Int)] ∧ H = [.row true (.cons (.int .i64) (.cons .str .nil)) (smK l s k)], ⟨rfl, l.length, 0, by omega, by omega, rfl, rfl⟩, ?_⟩
  rintro nM vs H ⟨k, hc1_0, rfl, rfl, rfl⟩
  have hsl := smK_len l s k
  refine ⟨fun h0 => ?_, fun h0 => ?_⟩
  · replace h0 : (k : Int) < (l.length : Int) := h0
    have hk : k < l.length := by omega
    refine ⟨⟨by show (0 : Int) ≤ (k : Int); omega, by show (k : Int) < (l.length : Int); omega⟩, ⟨rfl, rfl, rfl, Nat.le_of_ble_eq_true rfl⟩, ⟨by show (0 : Int) ≤ (k : Int); omega, by show (k : Int) ≤ (16 : Int); omega⟩, .inr ⟨rfl, ?_⟩⟩
    refine ⟨fun h1 => ?_, fun h1 => ?_⟩
    · replace h1 : ((s / 2 ^ k) % 2) = 1 := h1
      refine ⟨rfl, ⟨rfl, rfl⟩, by show (smK l s k).length + ([((l.getD k (0, ([], ()))).1, ((l.getD k (0, ([], ()))).2).1, ())] : List (Int × (List UInt8 × Unit))).length ≤ 1000000000; simp only [List.length_cons, List.length_nil]; omega, ⟨by show (-9223372036854775808 : Int) ≤ ((k : Int) + 1); omega, by show ((k : Int) + 1) ≤ (9223372036854775807 : Int); omega⟩, ?_⟩
      first
      | exact ⟨rfl, l.length - (k + 1), by omega, k + 1, by omega, rfl, rfl, by rw [show smK l s (k + 1) = _ from if_pos (show s / 2 ^ k % 2 = 1 from h1)]; rfl⟩
      | exact ⟨rfl, l.length - (k + 1), by omega, k + 1, by omega, rfl, rfl, by rw [show smK l s (k + 1) = _ from if_neg (show ¬ s / 2 ^ k % 2 = 1 from h1)]; rfl⟩
    · replace h1 : ¬ (((s / 2 ^ k) % 2) = 1) := h1
      refine ⟨⟨by show (-9223372036854775808 : Int) ≤ ((k : Int) + 1); omega, by show ((k : Int) + 1) ≤ (9223372036854775807 : Int); omega⟩, ?_⟩
      first
      | exact ⟨rfl, l.length - (k + 1), by omega, k + 1, by omega, rfl, rfl, by rw [show smK l s (k + 1) = _ from if_pos (show s / 2 ^ k % 2 = 1 from h1)]; rfl⟩
      | exact ⟨rfl, l.length - (k + 1), by omega, k + 1, by omega, rfl, rfl, by rw [show smK l s (k + 1) = _ from if_neg (show ¬ s / 2 ^ k % 2 = 1 from h1)]; rfl⟩
  · replace h0 : ¬ ((k : Int) < (l.length : Int)) := h0
    rw [show l.length = k by omega]
    exact ⟨rfl, rfl, rfl, rfl⟩
def CSom : List (Nat × Con) := (29, pureC [.v (.sl (.cons (.int .i64) (.cons .str .nil))), .v (.int .u16)] sSom) :: CShx
theorem kSom : Known Tryd.prog (En CSom tys G6 QCo2) := kShx.add Tryd.func29 Tryd.call29 [.o (.cons (.int .i64) (.cons .str .nil))] fun ds p v bs h hp => by
  unfold sSom at h
  split at h <;> simp only [Option.some.injEq, Prod.mk.injEq, reduceCtorEq] at h
  obtain ⟨rfl, rfl, rfl⟩ := h
  exact bSom _ _ hp.1 hp.2
def sSml : List V → Option (Prop × V × List Blk)
  | [.agg [.str sec, .int .i64 nd, .sl false (.int .i64) hs, .str nz], .int .i64 n] => some (sec.length ≤ 1048576 ∧ hs.length ≤ 1048576, .b (smlP sec hs n), [])
  | _ => none
set_option maxHeartbeats 1000000 in
theorem bSml (sec : List UInt8) (nd : Int) (hs : List Int) (nz : List UInt8) (n : Int) (hp0 : sec.length ≤ 1048576) (hp1 : hs.length ≤ 1048576) : bodyP (En CSom tys G6 QCo2) Tryd.f11 [.k] [.agg [.str sec, .int .i64 nd, .sl false (.int .i64) hs, .str nz], .int .i64 n] (.b (smlP sec hs n)) [] := by
  refine ⟨fun h0 => ?_, fun h0 => ?_⟩
  · replace h0 : ¬ ((sec.length : Int) ≤ n) := h0
    refine ⟨fun h1 => ?_, fun h1 => ?_⟩
    · replace h1 : 4096 < (sec.length : Int) := h1
      refine ⟨fun h2 => ?_, fun h2 => ?_⟩
      · replace h2 : (sec.length : Int) ≤ 5000 := h2
        exact ⟨rfl, rfl, congrArg V.b (propext (by unfold smlP; constructor <;> intro g <;> first | omega | exact Bool.noConfusion g | (exfalso; omega))), rfl⟩
      · replace h2 : ¬ ((sec.length : Int) ≤ 5000) := h2
        exact ⟨rfl, rfl, congrArg V.b (propext (by unfold smlP; constructor <;> intro g <;> first | omega | exact Bool.noConfusion g | (exfalso; omega))), rfl⟩
    · replace h1 : ¬ (4096 < (sec.length : Int)) := h1
      exact ⟨rfl, rfl, congrArg V.b (propext (by unfold smlP; constructor <;> intro g <;> first | omega | exact Bool.noConfusion g | (exfalso; omega))), rfl⟩
  · replace h0 : (sec.length : Int) ≤ n := h0
    exact ⟨rfl, rfl, congrArg V.b (propext (by unfold smlP; constructor <;> intro g <;> first | omega | exact Bool.noConfusion g | (exfalso; omega))), rfl⟩
def CSml : List (Nat × Con) := (11, pureC [.v (.cons .str (.cons (.int .i64) (.cons (.sl (.int .i64)) (.cons .str .nil)))), .v (.int .i64)] sSml) :: CSom
theorem kSml : Known Tryd.prog (En CSml tys G6 QCo2) := kSom.add Tryd.func11 Tryd.call11 [.k] fun ds p v bs h hp => by
  unfold sSml at h
  split at h <;> simp only [Option.some.injEq, Prod.mk.injEq, reduceCtorEq] at h
  obtain ⟨rfl, rfl, rfl⟩ := h
  exact bSml _ _ _ _ _ hp.1 hp.2
end Go.Proofs.YtakbedmeieeekaaDoor.S26

namespace Go.Proofs.YtakbedmeieeekaaDoor.S26
open Go Go.Proofs.YtakbedmeieeekaaDoor.Vc Go.Proofs
set_option maxRecDepth 100000
set_option linter.unusedVariables false

def sSan : List V → Option (Prop × V × List Blk)
  | [] => some (True, .b True, [])
  | _ => none
set_option maxHeartbeats 8000000 in
theorem bSan   : bodyP (En CSml tys G6 QCo2 [1000001, 1000002]) Tryd.f12 [.k] [] (.b True) [] := by
  refine ⟨rfl, trivial, rfl, trivial, rfl, trivial, rfl, rfl, rfl, rfl, rfl, rfl, rfl, ⟨by show ([10, 20]).length ≤ 1048576; decide +kernel, by show ([0, 1, 4] : List Int).length ≤ 1048576; decide +kernel, by show ([1, 2]).length ≤ 1048576; decide +kernel⟩, by kernel_rfl, ⟨by show (0 : Int) ≤ 0; first | omega | decide +kernel, by show 0 < (([(0, ([11, 22]), ()), (1, ([8, 16]), ()), (4, ([15, 30]), ())] : List (Int × (List UInt8 × Unit))).length : Int); first | omega | decide +kernel⟩, ⟨by show (0 : Int) ≤ 2; first | omega | decide +kernel, by show 2 < (([(0, ([11, 22]), ()), (1, ([8, 16]), ()), (4, ([15, 30]), ())] : List (Int × (List UInt8 × Unit))).length : Int); first | omega | decide +kernel⟩, rfl, rfl, rfl, by show ([((([(0, ([11, 22]), ()), (1, ([8, 16]), ()), (4, ([15, 30]), ())] : List (Int × (List UInt8 × Unit))).getD 0 (0, ([], ()))).1, ((([(0, ([11, 22]), ()), (1, ([8, 16]), ()), (4, ([15, 30]), ())] : List (Int × (List UInt8 × Unit))).getD 0 (0, ([], ()))).2).1, ()), ((([(0, ([11, 22]), ()), (1, ([8, 16]), ()), (4, ([15, 30]), ())] : List (Int × (List UInt8 × Unit))).getD 2 (0, ([], ()))).1, ((([(0, ([11, 22]), ()), (1, ([8, 16]), ()), (4, ([15, 30]), ())] : List (Int × (List UInt8 × Unit))).getD 2 (0, ([], ()))).2).1, ())] : List (Int × (List UInt8 × Unit))).length ≤ 1048576; decide +kernel, ⟨by first | omega | decide +kernel, by first | omega | decide +kernel⟩, rfl, by show ((([(0, ([11, 22]), ()), (1, ([8, 16]), ()), (4, ([15, 30]), ())] : List (Int × (List UInt8 × Unit))).drop 2).take (([(0, ([11, 22]), ()), (1, ([8, 16]), ()), (4, ([15, 30]), ())] : List (Int × (List UInt8 × Unit))).length - 2)).length ≤ 1048576; decide +kernel, by kernel_rfl, ⟨by show (0 : Int) ≤ 0; first | omega | decide +kernel, by show 0 < (([(0, ([11, 22]), ()), (1, ([8, 16]), ()), (4, ([15, 30]), ())] : List (Int × (List UInt8 × Unit))).length : Int); first | omega | decide +kernel⟩, ⟨by show (0 : Int) ≤ 1; first | omega | decide +kernel, by show 1 < (([(0, ([11, 22]), ()), (1, ([8, 16]), ()), (4, ([15, 30]), ())] : List (Int × (List UInt8 × Unit))).length : Int); first | omega | decide +kernel⟩, rfl, trivial, rfl, rfl, rfl, rfl, by show ([((([(0, ([11, 22]), ()), (1, ([8, 16]), ()), (4, ([15, 30]), ())] : List (Int × (List UInt8 × Unit))).getD 0 (0, ([], ()))).1, ((([(0, ([11, 22]), ()), (1, ([8, 16]), ()), (4, ([15, 30]), ())] : List (Int × (List UInt8 × Unit))).getD 0 (0, ([], ()))).2).1, ()), ((([(0, ([11, 22]), ()), (1, ([8, 16]), ()), (4, ([15, 30]), ())] : List (Int × (List UInt8 × Unit))).getD 1 (0, ([], ()))).1, ((([(0, ([11, 22]), ()), (1, ([8, 16]), ()), (4, ([15, 30]), ())] : List (Int × (List UInt8 × Unit))).getD 1 (0, ([], ()))).2).1, ()), (4, ([15, 31]), ())] : List (Int × (List UInt8 × Unit))).length ≤ 1048576; decide +kernel, ⟨by first | omega | decide +kernel, by first | omega | decide +kernel⟩, rfl, rfl, by show ((([(0, ([11, 22]), ()), (1, ([8, 16]), ()), (4, ([15, 30]), ())] : List (Int × (List UInt8 × Unit))).drop 0).take (2 - 0)).length ≤ 1048576; decide +kernel, ⟨rfl, rfl, rfl, Nat.le_of_ble_eq_true rfl⟩, rfl, rfl, by show ([((([(0, ([11, 22]), ()), (1, ([8, 16]), ()), (4, ([15, 30]), ())] : List (Int × (List UInt8 × Unit))).getD 0 (0, ([], ()))).1, ((([(0, ([11, 22]), ()), (1, ([8, 16]), ()), (4, ([15, 30]), ())] : List (Int × (List UInt8 × Unit))).getD 0 (0, ([], ()))).2).1, ()), ((([(0, ([11, 22]), ()), (1, ([8, 16]), ()), (4, ([15, 30]), ())] : List (Int × (List UInt8 × Unit))).getD 1 (0, ([], ()))).1, ((([(0, ([11, 22]), ()), (1, ([8, 16]), ()), (4, ([15, 30]), ())] : List (Int × (List UInt8 × Unit))).getD 1 (0, ([], ()))).2).1, ()), (4, ([15, 31]), ())] : List (Int × (List UInt8 × Unit))).length ≤ 1048576; decide +kernel, rfl, trivial, rfl, ⟨rfl, rfl⟩, by show ([((([(0, ([11, 22]), ()), (1, ([8, 16]), ()), (4, ([15, 30]), ())] : List (Int × (List UInt8 × Unit))).getD 0 (0, ([], ()))).1, ((([(0, ([11, 22]), ()), (1, ([8, 16]), ()), (4, ([15, 30]), ())] : List (Int × (List UInt8 × Unit))).getD 0 (0, ([], ()))).2).1, ()), ((([(0, ([11, 22]), ()), (1, ([8, 16]), ()), (4, ([15, 30]), ())] : List (Int × (List UInt8 × Unit))).getD 1 (0, ([], ()))).1, ((([(0, ([11, 22]), ()), (1, ([8, 16]), ()), (4, ([15, 30]), ())] : List (Int × (List UInt8 × Unit))).getD 1 (0, ([], ()))).2).1, ()), (4, ([15, 31]), ())] : List (Int × (List UInt8 × Unit))).length + ([(5, ([12, 24]), ())] : List (Int × (List UInt8 × Unit))).length ≤ 1000000000; simp only [List.length_cons, List.length_nil]; first | omega | decide +kernel, rfl, rfl, by show (([((([(0, ([11, 22]), ()), (1, ([8, 16]), ()), (4, ([15, 30]), ())] : List (Int × (List UInt8 × Unit))).getD 0 (0, ([], ()))).1, ((([(0, ([11, 22]), ()), (1, ([8, 16]), ()), (4, ([15, 30]), ())] : List (Int × (List UInt8 × Unit))).getD 0 (0, ([], ()))).2).1, ()), ((([(0, ([11, 22]), ()), (1, ([8, 16]), ()), (4, ([15, 30]), ())] : List (Int × (List UInt8 × Unit))).getD 1 (0, ([], ()))).1, ((([(0, ([11, 22]), ()), (1, ([8, 16]), ()), (4, ([15, 30]), ())] : List (Int × (List UInt8 × Unit))).getD 1 (0, ([], ()))).2).1, ()), (4, ([15, 31]), ())] : List (Int × (List UInt8 × Unit))) ++ ([(5, ([12, 24]), ())] : List (Int × (List UInt8 × Unit)))).length ≤ 1048576; decide +kernel, ⟨by first | omega | decide +kernel, by first | omega | decide +kernel⟩, rfl, ⟨by show ((([(0, ([11, 22]), ()), (1, ([8, 16]), ()), (4, ([15, 30]), ())] : List (Int × (List UInt8 × Unit))).drop 0).take (1 - 0)).length ≤ 1048576; decide +kernel, by show ([0, 0]).length ≤ 1048576; decide +kernel⟩, rfl, ⟨by show ([]).length ≤ 1048576; decide +kernel, by show ([0, 0]).length ≤ 1048576; decide +kernel⟩, ⟨by first | omega | decide +kernel, by first | omega | decide +kernel⟩, rfl, ⟨by show ((([(0, ([11, 22]), ()), (1, ([8, 16]), ()), (4, ([15, 30]), ())] : List (Int × (List UInt8 × Unit))).drop 0).take (2 - 0)).length ≤ 1048576; decide +kernel, by show ([0, 0]).length ≤ 1048576; decide +kernel⟩, by kernel_rfl, ⟨by show (0 : Int) ≤ 0; first | omega | decide +kernel, by show 0 < (([(0, ([11, 22]), ()), (1, ([8, 16]), ()), (4, ([15, 30]), ())] : List (Int × (List UInt8 × Unit))).length : Int); first | omega | decide +kernel⟩, rfl, trivial, rfl, rfl, ⟨by show (((([(0, ([11, 22]), ()), (1, ([8, 16]), ()), (4, ([15, 30]), ())] : List (Int × (List UInt8 × Unit))).getD 0 (0, ([], ()))).2).1).length ≤ 1048576; decide +kernel, by show ([1, 1]).length ≤ 1048576; decide +kernel⟩, ⟨rfl, rfl, rfl, Nat.le_of_ble_eq_true rfl⟩, fun h0 => ?_, fun h0 => absurd (show (splE ([10, 20]) 2 ([0, 1, 4] : List Int) ([1, 2])) = 0 by decide +kernel) h0⟩
  refine ⟨fun h1 => ?_, fun h1 => absurd (show (joE ([((([(0, ([11, 22]), ()), (1, ([8, 16]), ()), (4, ([15, 30]), ())] : List (Int × (List UInt8 × Unit))).getD 0 (0, ([], ()))).1, ((([(0, ([11, 22]), ()), (1, ([8, 16]), ()), (4, ([15, 30]), ())] : List (Int × (List UInt8 × Unit))).getD 0 (0, ([], ()))).2).1, ()), ((([(0, ([11, 22]), ()), (1, ([8, 16]), ()), (4, ([15, 30]), ())] : List (Int × (List UInt8 × Unit))).getD 2 (0, ([], ()))).1, ((([(0, ([11, 22]), ()), (1, ([8, 16]), ()), (4, ([15, 30]), ())] : List (Int × (List UInt8 × Unit))).getD 2 (0, ([], ()))).2).1, ())] : List (Int × (List UInt8 × Unit))) 2) = 0 by decide +kernel) h1⟩
  refine ⟨fun h2 => ?_, fun h2 => absurd (show (exE ((([(0, ([11, 22]), ()), (1, ([8, 16]), ()), (4, ([15, 30]), ())] : List (Int × (List UInt8 × Unit))).drop 0).take (2 - 0)) 2 2) = 0 by decide +kernel) h2⟩
  refine ⟨fun h3 => ?_, fun h3 => absurd (show (rbE (([((([(0, ([11, 22]), ()), (1, ([8, 16]), ()), (4, ([15, 30]), ())] : List (Int × (List UInt8 × Unit))).getD 0 (0, ([], ()))).1, ((([(0, ([11, 22]), ()), (1, ([8, 16]), ()), (4, ([15, 30]), ())] : List (Int × (List UInt8 × Unit))).getD 0 (0, ([], ()))).2).1, ()), ((([(0, ([11, 22]), ()), (1, ([8, 16]), ()), (4, ([15, 30]), ())] : List (Int × (List UInt8 × Unit))).getD 1 (0, ([], ()))).1, ((([(0, ([11, 22]), ()), (1, ([8, 16]), ()), (4, ([15, 30]), ())] : List (Int × (List UInt8 × Unit))).getD 1 (0, ([], ()))).2).1, ()), (4, ([15, 31]), ())] : List (Int × (List UInt8 × Unit))) ++ ([(5, ([12, 24]), ())] : List (Int × (List UInt8 × Unit)))) 2 1) = 0 by decide +kernel) h3⟩
  refine ⟨fun h4 => ?_, fun h4 => absurd (show (adE (((([(0, ([11, 22]), ()), (1, ([8, 16]), ()), (4, ([15, 30]), ())] : List (Int × (List UInt8 × Unit))).getD 0 (0, ([], ()))).1), (((([(0, ([11, 22]), ()), (1, ([8, 16]), ()), (4, ([15, 30]), ())] : List (Int × (List UInt8 × Unit))).getD 0 (0, ([], ()))).2).1), ()) (0, ([1, 1]), ())) = 0 by decide +kernel) h4⟩
  refine ⟨fun h5 => ?_, fun h5 => absurd (show (joE ((([(0, ([11, 22]), ()), (1, ([8, 16]), ()), (4, ([15, 30]), ())] : List (Int × (List UInt8 × Unit))).drop 2).take (([(0, ([11, 22]), ()), (1, ([8, 16]), ()), (4, ([15, 30]), ())] : List (Int × (List UInt8 × Unit))).length - 2)) 2) = 29 by decide +kernel) h5⟩
  refine ⟨fun h6 => ?_, fun h6 => absurd (show (joE ([((([(0, ([11, 22]), ()), (1, ([8, 16]), ()), (4, ([15, 30]), ())] : List (Int × (List UInt8 × Unit))).getD 0 (0, ([], ()))).1, ((([(0, ([11, 22]), ()), (1, ([8, 16]), ()), (4, ([15, 30]), ())] : List (Int × (List UInt8 × Unit))).getD 0 (0, ([], ()))).2).1, ()), ((([(0, ([11, 22]), ()), (1, ([8, 16]), ()), (4, ([15, 30]), ())] : List (Int × (List UInt8 × Unit))).getD 1 (0, ([], ()))).1, ((([(0, ([11, 22]), ()), (1, ([8, 16]), ()), (4, ([15, 30]), ())] : List (Int × (List UInt8 × Unit))).getD 1 (0, ([], ()))).2).1, ()), (4, ([15, 31]), ())] : List (Int × (List UInt8 × Unit))) 2) = 14 by decide +kernel) h6⟩
  refine ⟨by kernel_rfl, ⟨by show (splL ([10, 20]) 2 ([0, 1, 4] : List Int) ([1, 2])).length ≤ 1048576; decide +kernel, by show ([(0, ([11, 22]), ()), (1, ([8, 16]), ()), (4, ([15, 30]), ())] : List (Int × (List UInt8 × Unit))).length ≤ 1048576; decide +kernel⟩, fun h7 => ?_, fun h7 => absurd (show (splL ([10, 20]) 2 ([0, 1, 4] : List Int) ([1, 2])) = ([(0, ([11, 22]), ()), (1, ([8, 16]), ()), (4, ([15, 30]), ())] : List (Int × (List UInt8 × Unit))) by decide +kernel) h7⟩
  refine ⟨fun h8 => ?_, fun h8 => absurd (show (splL ([10, 20]) 2 ([0, 1, 4] : List Int) ([1, 2])) = ([(0, ([11, 22]), ()), (1, ([8, 16]), ()), (4, ([15, 30]), ())] : List (Int × (List UInt8 × Unit))) by decide +kernel) h8⟩
  refine ⟨fun h9 => ?_, fun h9 => absurd (show (splL ([10, 20]) 2 ([0, 1, 4] : List Int) ([1, 2])) = ([(0, ([11, 22]), ()), (1, ([8, 16]), ()), (4, ([15, 30]), ())] : List (Int × (List UInt8 × Unit))) by decide +kernel) h9⟩
  refine ⟨fun h10 => ?_, fun h10 => absurd (show (joS ([((([(0, ([11, 22]), ()), (1, ([8, 16]), ()), (4, ([15, 30]), ())] : List (Int × (List UInt8 × Unit))).getD 0 (0, ([], ()))).1, ((([(0, ([11, 22]), ()), (1, ([8, 16]), ()), (4, ([15, 30]), ())] : List (Int × (List UInt8 × Unit))).getD 0 (0, ([], ()))).2).1, ()), ((([(0, ([11, 22]), ()), (1, ([8, 16]), ()), (4, ([15, 30]), ())] : List (Int × (List UInt8 × Unit))).getD 2 (0, ([], ()))).1, ((([(0, ([11, 22]), ()), (1, ([8, 16]), ()), (4, ([15, 30]), ())] : List (Int × (List UInt8 × Unit))).getD 2 (0, ([], ()))).2).1, ())] : List (Int × (List UInt8 × Unit))) 2 0) = ([10, 20]) by decide +kernel) h10⟩
  refine ⟨fun h11 => ?_, fun h11 => absurd (show (joS ([((([(0, ([11, 22]), ()), (1, ([8, 16]), ()), (4, ([15, 30]), ())] : List (Int × (List UInt8 × Unit))).getD 0 (0, ([], ()))).1, ((([(0, ([11, 22]), ()), (1, ([8, 16]), ()), (4, ([15, 30]), ())] : List (Int × (List UInt8 × Unit))).getD 0 (0, ([], ()))).2).1, ()), ((([(0, ([11, 22]), ()), (1, ([8, 16]), ()), (4, ([15, 30]), ())] : List (Int × (List UInt8 × Unit))).getD 2 (0, ([], ()))).1, ((([(0, ([11, 22]), ()), (1, ([8, 16]), ()), (4, ([15, 30]), ())] : List (Int × (List UInt8 × Unit))).getD 2 (0, ([], ()))).2).1, ())] : List (Int × (List UInt8 × Unit))) 2 0) = ([10, 20]) by decide +kernel) h11⟩
  refine ⟨rfl, trivial, fun h12 => ?_, fun h12 => absurd (show (joS ([((([(0, ([11, 22]), ()), (1, ([8, 16]), ()), (4, ([15, 30]), ())] : List (Int × (List UInt8 × Unit))).getD 0 (0, ([], ()))).1, ((([(0, ([11, 22]), ()), (1, ([8, 16]), ()), (4, ([15, 30]), ())] : List (Int × (List UInt8 × Unit))).getD 0 (0, ([], ()))).2).1, ()), ((([(0, ([11, 22]), ()), (1, ([8, 16]), ()), (4, ([15, 30]), ())] : List (Int × (List UInt8 × Unit))).getD 2 (0, ([], ()))).1, ((([(0, ([11, 22]), ()), (1, ([8, 16]), ()), (4, ([15, 30]), ())] : List (Int × (List UInt8 × Unit))).getD 2 (0, ([], ()))).2).1, ())] : List (Int × (List UInt8 × Unit))) 2 0) = ([10, 20]) by decide +kernel) h12⟩
  refine ⟨fun h13 => ?_, fun h13 => absurd (show (joS ([((([(0, ([11, 22]), ()), (1, ([8, 16]), ()), (4, ([15, 30]), ())] : List (Int × (List UInt8 × Unit))).getD 0 (0, ([], ()))).1, ((([(0, ([11, 22]), ()), (1, ([8, 16]), ()), (4, ([15, 30]), ())] : List (Int × (List UInt8 × Unit))).getD 0 (0, ([], ()))).2).1, ()), ((([(0, ([11, 22]), ()), (1, ([8, 16]), ()), (4, ([15, 30]), ())] : List (Int × (List UInt8 × Unit))).getD 2 (0, ([], ()))).1, ((([(0, ([11, 22]), ()), (1, ([8, 16]), ()), (4, ([15, 30]), ())] : List (Int × (List UInt8 × Unit))).getD 2 (0, ([], ()))).2).1, ())] : List (Int × (List UInt8 × Unit))) 2 0) = ([10, 20]) by decide +kernel) h13⟩
  refine ⟨fun h14 => ?_, fun h14 => absurd (show ((exH ((([(0, ([11, 22]), ()), (1, ([8, 16]), ()), (4, ([15, 30]), ())] : List (Int × (List UInt8 × Unit))).drop 0).take (2 - 0)) 2 2) = 2 ∧ ((exS ((([(0, ([11, 22]), ()), (1, ([8, 16]), ()), (4, ([15, 30]), ())] : List (Int × (List UInt8 × Unit))).drop 0).take (2 - 0)) 2 2) = ([9, 18]) ∧ True)) by decide +kernel) h14⟩
  refine ⟨fun h15 => ?_, fun h15 => absurd (show ((exH ((([(0, ([11, 22]), ()), (1, ([8, 16]), ()), (4, ([15, 30]), ())] : List (Int × (List UInt8 × Unit))).drop 0).take (2 - 0)) 2 2) = 2 ∧ ((exS ((([(0, ([11, 22]), ()), (1, ([8, 16]), ()), (4, ([15, 30]), ())] : List (Int × (List UInt8 × Unit))).drop 0).take (2 - 0)) 2 2) = ([9, 18]) ∧ True)) by decide +kernel) h15⟩
  refine ⟨fun h16 => ?_, fun h16 => absurd (show ((exH ((([(0, ([11, 22]), ()), (1, ([8, 16]), ()), (4, ([15, 30]), ())] : List (Int × (List UInt8 × Unit))).drop 0).take (2 - 0)) 2 2) = 2 ∧ ((exS ((([(0, ([11, 22]), ()), (1, ([8, 16]), ()), (4, ([15, 30]), ())] : List (Int × (List UInt8 × Unit))).drop 0).take (2 - 0)) 2 2) = ([9, 18]) ∧ True)) by decide +kernel) h16⟩
  refine ⟨fun h17 => ?_, fun h17 => absurd (show (rbS (([((([(0, ([11, 22]), ()), (1, ([8, 16]), ()), (4, ([15, 30]), ())] : List (Int × (List UInt8 × Unit))).getD 0 (0, ([], ()))).1, ((([(0, ([11, 22]), ()), (1, ([8, 16]), ()), (4, ([15, 30]), ())] : List (Int × (List UInt8 × Unit))).getD 0 (0, ([], ()))).2).1, ()), ((([(0, ([11, 22]), ()), (1, ([8, 16]), ()), (4, ([15, 30]), ())] : List (Int × (List UInt8 × Unit))).getD 1 (0, ([], ()))).1, ((([(0, ([11, 22]), ()), (1, ([8, 16]), ()), (4, ([15, 30]), ())] : List (Int × (List UInt8 × Unit))).getD 1 (0, ([], ()))).2).1, ()), (4, ([15, 31]), ())] : List (Int × (List UInt8 × Unit))) ++ ([(5, ([12, 24]), ())] : List (Int × (List UInt8 × Unit)))) 2 1) = ([10, 20]) by decide +kernel) h17⟩
  refine ⟨fun h18 => ?_, fun h18 => absurd (show (rbS (([((([(0, ([11, 22]), ()), (1, ([8, 16]), ()), (4, ([15, 30]), ())] : List (Int × (List UInt8 × Unit))).getD 0 (0, ([], ()))).1, ((([(0, ([11, 22]), ()), (1, ([8, 16]), ()), (4, ([15, 30]), ())] : List (Int × (List UInt8 × Unit))).getD 0 (0, ([], ()))).2).1, ()), ((([(0, ([11, 22]), ()), (1, ([8, 16]), ()), (4, ([15, 30]), ())] : List (Int × (List UInt8 × Unit))).getD 1 (0, ([], ()))).1, ((([(0, ([11, 22]), ()), (1, ([8, 16]), ()), (4, ([15, 30]), ())] : List (Int × (List UInt8 × Unit))).getD 1 (0, ([], ()))).2).1, ()), (4, ([15, 31]), ())] : List (Int × (List UInt8 × Unit))) ++ ([(5, ([12, 24]), ())] : List (Int × (List UInt8 × Unit)))) 2 1) = ([10, 20]) by decide +kernel) h18⟩
  refine ⟨fun h19 => ?_, fun h19 => absurd (show (rbS (([((([(0, ([11, 22]), ()), (1, ([8, 16]), ()), (4, ([15, 30]), ())] : List (Int × (List UInt8 × Unit))).getD 0 (0, ([], ()))).1, ((([(0, ([11, 22]), ()), (1, ([8, 16]), ()), (4, ([15, 30]), ())] : List (Int × (List UInt8 × Unit))).getD 0 (0, ([], ()))).2).1, ()), ((([(0, ([11, 22]), ()), (1, ([8, 16]), ()), (4, ([15, 30]), ())] : List (Int × (List UInt8 × Unit))).getD 1 (0, ([], ()))).1, ((([(0, ([11, 22]), ()), (1, ([8, 16]), ()), (4, ([15, 30]), ())] : List (Int × (List UInt8 × Unit))).getD 1 (0, ([], ()))).2).1, ()), (4, ([15, 31]), ())] : List (Int × (List UInt8 × Unit))) ++ ([(5, ([12, 24]), ())] : List (Int × (List UInt8 × Unit)))) 2 1) = ([10, 20]) by decide +kernel) h19⟩
  refine ⟨fun h20 => ?_, fun h20 => absurd (show (rbS (([((([(0, ([11, 22]), ()), (1, ([8, 16]), ()), (4, ([15, 30]), ())] : List (Int × (List UInt8 × Unit))).getD 0 (0, ([], ()))).1, ((([(0, ([11, 22]), ()), (1, ([8, 16]), ()), (4, ([15, 30]), ())] : List (Int × (List UInt8 × Unit))).getD 0 (0, ([], ()))).2).1, ()), ((([(0, ([11, 22]), ()), (1, ([8, 16]), ()), (4, ([15, 30]), ())] : List (Int × (List UInt8 × Unit))).getD 1 (0, ([], ()))).1, ((([(0, ([11, 22]), ()), (1, ([8, 16]), ()), (4, ([15, 30]), ())] : List (Int × (List UInt8 × Unit))).getD 1 (0, ([], ()))).2).1, ()), (4, ([15, 31]), ())] : List (Int × (List UInt8 × Unit))) ++ ([(5, ([12, 24]), ())] : List (Int × (List UInt8 × Unit)))) 2 1) = ([10, 20]) by decide +kernel) h20⟩
  refine ⟨fun h21 => ?_, fun h21 => absurd (show (((rbH (([((([(0, ([11, 22]), ()), (1, ([8, 16]), ()), (4, ([15, 30]), ())] : List (Int × (List UInt8 × Unit))).getD 0 (0, ([], ()))).1, ((([(0, ([11, 22]), ()), (1, ([8, 16]), ()), (4, ([15, 30]), ())] : List (Int × (List UInt8 × Unit))).getD 0 (0, ([], ()))).2).1, ()), ((([(0, ([11, 22]), ()), (1, ([8, 16]), ()), (4, ([15, 30]), ())] : List (Int × (List UInt8 × Unit))).getD 1 (0, ([], ()))).1, ((([(0, ([11, 22]), ()), (1, ([8, 16]), ()), (4, ([15, 30]), ())] : List (Int × (List UInt8 × Unit))).getD 1 (0, ([], ()))).2).1, ()), (4, ([15, 31]), ())] : List (Int × (List UInt8 × Unit))) ++ ([(5, ([12, 24]), ())] : List (Int × (List UInt8 × Unit)))) 2 1).length : Nat) : Int) = 1 by decide +kernel) h21⟩
  refine ⟨fun h22 => ?_, fun h22 => absurd (show (((rbH (([((([(0, ([11, 22]), ()), (1, ([8, 16]), ()), (4, ([15, 30]), ())] : List (Int × (List UInt8 × Unit))).getD 0 (0, ([], ()))).1, ((([(0, ([11, 22]), ()), (1, ([8, 16]), ()), (4, ([15, 30]), ())] : List (Int × (List UInt8 × Unit))).getD 0 (0, ([], ()))).2).1, ()), ((([(0, ([11, 22]), ()), (1, ([8, 16]), ()), (4, ([15, 30]), ())] : List (Int × (List UInt8 × Unit))).getD 1 (0, ([], ()))).1, ((([(0, ([11, 22]), ()), (1, ([8, 16]), ()), (4, ([15, 30]), ())] : List (Int × (List UInt8 × Unit))).getD 1 (0, ([], ()))).2).1, ()), (4, ([15, 31]), ())] : List (Int × (List UInt8 × Unit))) ++ ([(5, ([12, 24]), ())] : List (Int × (List UInt8 × Unit)))) 2 1).length : Nat) : Int) = 1 by decide +kernel) h22⟩
  refine ⟨rfl, trivial, fun h23 => ?_, fun h23 => absurd (show (((rbH (([((([(0, ([11, 22]), ()), (1, ([8, 16]), ()), (4, ([15, 30]), ())] : List (Int × (List UInt8 × Unit))).getD 0 (0, ([], ()))).1, ((([(0, ([11, 22]), ()), (1, ([8, 16]), ()), (4, ([15, 30]), ())] : List (Int × (List UInt8 × Unit))).getD 0 (0, ([], ()))).2).1, ()), ((([(0, ([11, 22]), ()), (1, ([8, 16]), ()), (4, ([15, 30]), ())] : List (Int × (List UInt8 × Unit))).getD 1 (0, ([], ()))).1, ((([(0, ([11, 22]), ()), (1, ([8, 16]), ()), (4, ([15, 30]), ())] : List (Int × (List UInt8 × Unit))).getD 1 (0, ([], ()))).2).1, ()), (4, ([15, 31]), ())] : List (Int × (List UInt8 × Unit))) ++ ([(5, ([12, 24]), ())] : List (Int × (List UInt8 × Unit)))) 2 1).length : Nat) : Int) = 1 by decide +kernel) h23⟩
  refine ⟨fun h24 => ?_, fun h24 => absurd (show (((rbH (([((([(0, ([11, 22]), ()), (1, ([8, 16]), ()), (4, ([15, 30]), ())] : List (Int × (List UInt8 × Unit))).getD 0 (0, ([], ()))).1, ((([(0, ([11, 22]), ()), (1, ([8, 16]), ()), (4, ([15, 30]), ())] : List (Int × (List UInt8 × Unit))).getD 0 (0, ([], ()))).2).1, ()), ((([(0, ([11, 22]), ()), (1, ([8, 16]), ()), (4, ([15, 30]), ())] : List (Int × (List UInt8 × Unit))).getD 1 (0, ([], ()))).1, ((([(0, ([11, 22]), ()), (1, ([8, 16]), ()), (4, ([15, 30]), ())] : List (Int × (List UInt8 × Unit))).getD 1 (0, ([], ()))).2).1, ()), (4, ([15, 31]), ())] : List (Int × (List UInt8 × Unit))) ++ ([(5, ([12, 24]), ())] : List (Int × (List UInt8 × Unit)))) 2 1).length : Nat) : Int) = 1 by decide +kernel) h24⟩
  refine ⟨by kernel_rfl, fun h25 => ?_, fun h25 => absurd (show (rbE ([((([(0, ([11, 22]), ()), (1, ([8, 16]), ()), (4, ([15, 30]), ())] : List (Int × (List UInt8 × Unit))).getD 0 (0, ([], ()))).1, ((([(0, ([11, 22]), ()), (1, ([8, 16]), ()), (4, ([15, 30]), ())] : List (Int × (List UInt8 × Unit))).getD 0 (0, ([], ()))).2).1, ()), ((([(0, ([11, 22]), ()), (1, ([8, 16]), ()), (4, ([15, 30]), ())] : List (Int × (List UInt8 × Unit))).getD 1 (0, ([], ()))).1, ((([(0, ([11, 22]), ()), (1, ([8, 16]), ()), (4, ([15, 30]), ())] : List (Int × (List UInt8 × Unit))).getD 1 (0, ([], ()))).2).1, ()), (4, ([15, 31]), ())] : List (Int × (List UInt8 × Unit))) 2 1) = 29 by decide +kernel) h25⟩
  refine ⟨fun h26 => ?_, fun h26 => absurd (show (rbE ([((([(0, ([11, 22]), ()), (1, ([8, 16]), ()), (4, ([15, 30]), ())] : List (Int × (List UInt8 × Unit))).getD 0 (0, ([], ()))).1, ((([(0, ([11, 22]), ()), (1, ([8, 16]), ()), (4, ([15, 30]), ())] : List (Int × (List UInt8 × Unit))).getD 0 (0, ([], ()))).2).1, ()), ((([(0, ([11, 22]), ()), (1, ([8, 16]), ()), (4, ([15, 30]), ())] : List (Int × (List UInt8 × Unit))).getD 1 (0, ([], ()))).1, ((([(0, ([11, 22]), ()), (1, ([8, 16]), ()), (4, ([15, 30]), ())] : List (Int × (List UInt8 × Unit))).getD 1 (0, ([], ()))).2).1, ()), (4, ([15, 31]), ())] : List (Int × (List UInt8 × Unit))) 2 1) = 29 by decide +kernel) h26⟩
  refine ⟨fun h27 => ?_, fun h27 => absurd (show ((adH (((([(0, ([11, 22]), ()), (1, ([8, 16]), ()), (4, ([15, 30]), ())] : List (Int × (List UInt8 × Unit))).getD 0 (0, ([], ()))).1), (((([(0, ([11, 22]), ()), (1, ([8, 16]), ()), (4, ([15, 30]), ())] : List (Int × (List UInt8 × Unit))).getD 0 (0, ([], ()))).2).1), ()) (0, ([1, 1]), ())) = 0 ∧ ((adS (((([(0, ([11, 22]), ()), (1, ([8, 16]), ()), (4, ([15, 30]), ())] : List (Int × (List UInt8 × Unit))).getD 0 (0, ([], ()))).1), (((([(0, ([11, 22]), ()), (1, ([8, 16]), ()), (4, ([15, 30]), ())] : List (Int × (List UInt8 × Unit))).getD 0 (0, ([], ()))).2).1), ()) (0, ([1, 1]), ())) = ([10, 23]) ∧ True)) by decide +kernel) h27⟩
  refine ⟨fun h28 => ?_, fun h28 => absurd (show ((adH (((([(0, ([11, 22]), ()), (1, ([8, 16]), ()), (4, ([15, 30]), ())] : List (Int × (List UInt8 × Unit))).getD 0 (0, ([], ()))).1), (((([(0, ([11, 22]), ()), (1, ([8, 16]), ()), (4, ([15, 30]), ())] : List (Int × (List UInt8 × Unit))).getD 0 (0, ([], ()))).2).1), ()) (0, ([1, 1]), ())) = 0 ∧ ((adS (((([(0, ([11, 22]), ()), (1, ([8, 16]), ()), (4, ([15, 30]), ())] : List (Int × (List UInt8 × Unit))).getD 0 (0, ([], ()))).1), (((([(0, ([11, 22]), ()), (1, ([8, 16]), ()), (4, ([15, 30]), ())] : List (Int × (List UInt8 × Unit))).getD 0 (0, ([], ()))).2).1), ()) (0, ([1, 1]), ())) = ([10, 23]) ∧ True)) by decide +kernel) h28⟩
  refine ⟨⟨by show (0 : Int) ≤ 0; first | omega | decide +kernel, by show 0 < ((rbH (([((([(0, ([11, 22]), ()), (1, ([8, 16]), ()), (4, ([15, 30]), ())] : List (Int × (List UInt8 × Unit))).getD 0 (0, ([], ()))).1, ((([(0, ([11, 22]), ()), (1, ([8, 16]), ()), (4, ([15, 30]), ())] : List (Int × (List UInt8 × Unit))).getD 0 (0, ([], ()))).2).1, ()), ((([(0, ([11, 22]), ()), (1, ([8, 16]), ()), (4, ([15, 30]), ())] : List (Int × (List UInt8 × Unit))).getD 1 (0, ([], ()))).1, ((([(0, ([11, 22]), ()), (1, ([8, 16]), ()), (4, ([15, 30]), ())] : List (Int × (List UInt8 × Unit))).getD 1 (0, ([], ()))).2).1, ()), (4, ([15, 31]), ())] : List (Int × (List UInt8 × Unit))) ++ ([(5, ([12, 24]), ())] : List (Int × (List UInt8 × Unit)))) 2 1).length : Int); first | omega | decide +kernel⟩, fun h29 => ?_, fun h29 => absurd (show ((adH (((([(0, ([11, 22]), ()), (1, ([8, 16]), ()), (4, ([15, 30]), ())] : List (Int × (List UInt8 × Unit))).getD 0 (0, ([], ()))).1), (((([(0, ([11, 22]), ()), (1, ([8, 16]), ()), (4, ([15, 30]), ())] : List (Int × (List UInt8 × Unit))).getD 0 (0, ([], ()))).2).1), ()) (0, ([1, 1]), ())) = 0 ∧ ((adS (((([(0, ([11, 22]), ()), (1, ([8, 16]), ()), (4, ([15, 30]), ())] : List (Int × (List UInt8 × Unit))).getD 0 (0, ([], ()))).1), (((([(0, ([11, 22]), ()), (1, ([8, 16]), ()), (4, ([15, 30]), ())] : List (Int × (List UInt8 × Unit))).getD 0 (0, ([], ()))).2).1), ()) (0, ([1, 1]), ())) = ([10, 23]) ∧ True)) by decide +kernel) h29⟩
  refine ⟨fun h30 => ?_, fun h30 => absurd (show ((adH (((([(0, ([11, 22]), ()), (1, ([8, 16]), ()), (4, ([15, 30]), ())] : List (Int × (List UInt8 × Unit))).getD 0 (0, ([], ()))).1), (((([(0, ([11, 22]), ()), (1, ([8, 16]), ()), (4, ([15, 30]), ())] : List (Int × (List UInt8 × Unit))).getD 0 (0, ([], ()))).2).1), ()) (0, ([1, 1]), ())) = 0 ∧ ((adS (((([(0, ([11, 22]), ()), (1, ([8, 16]), ()), (4, ([15, 30]), ())] : List (Int × (List UInt8 × Unit))).getD 0 (0, ([], ()))).1), (((([(0, ([11, 22]), ()), (1, ([8, 16]), ()), (4, ([15, 30]), ())] : List (Int × (List UInt8 × Unit))).getD 0 (0, ([], ()))).2).1), ()) (0, ([1, 1]), ())) = ([10, 23]) ∧ True)) by decide +kernel) h30⟩
  refine ⟨fun h31 => ?_, fun h31 => absurd (show ((adH (((([(0, ([11, 22]), ()), (1, ([8, 16]), ()), (4, ([15, 30]), ())] : List (Int × (List UInt8 × Unit))).getD 0 (0, ([], ()))).1), (((([(0, ([11, 22]), ()), (1, ([8, 16]), ()), (4, ([15, 30]), ())] : List (Int × (List UInt8 × Unit))).getD 0 (0, ([], ()))).2).1), ()) (0, ([1, 1]), ())) = 0 ∧ ((adS (((([(0, ([11, 22]), ()), (1, ([8, 16]), ()), (4, ([15, 30]), ())] : List (Int × (List UInt8 × Unit))).getD 0 (0, ([], ()))).1), (((([(0, ([11, 22]), ()), (1, ([8, 16]), ()), (4, ([15, 30]), ())] : List (Int × (List UInt8 × Unit))).getD 0 (0, ([], ()))).2).1), ()) (0, ([1, 1]), ())) = ([10, 23]) ∧ True)) by decide +kernel) h31⟩
  refine ⟨fun h32 => ?_, fun h32 => absurd (show ((rbH (([((([(0, ([11, 22]), ()), (1, ([8, 16]), ()), (4, ([15, 30]), ())] : List (Int × (List UInt8 × Unit))).getD 0 (0, ([], ()))).1, ((([(0, ([11, 22]), ()), (1, ([8, 16]), ()), (4, ([15, 30]), ())] : List (Int × (List UInt8 × Unit))).getD 0 (0, ([], ()))).2).1, ()), ((([(0, ([11, 22]), ()), (1, ([8, 16]), ()), (4, ([15, 30]), ())] : List (Int × (List UInt8 × Unit))).getD 1 (0, ([], ()))).1, ((([(0, ([11, 22]), ()), (1, ([8, 16]), ()), (4, ([15, 30]), ())] : List (Int × (List UInt8 × Unit))).getD 1 (0, ([], ()))).2).1, ()), (4, ([15, 31]), ())] : List (Int × (List UInt8 × Unit))) ++ ([(5, ([12, 24]), ())] : List (Int × (List UInt8 × Unit)))) 2 1).getD 0 0) = 4 by decide +kernel) h32⟩
  refine ⟨fun h33 => ?_, fun h33 => absurd (show ((rbH (([((([(0, ([11, 22]), ()), (1, ([8, 16]), ()), (4, ([15, 30]), ())] : List (Int × (List UInt8 × Unit))).getD 0 (0, ([], ()))).1, ((([(0, ([11, 22]), ()), (1, ([8, 16]), ()), (4, ([15, 30]), ())] : List (Int × (List UInt8 × Unit))).getD 0 (0, ([], ()))).2).1, ()), ((([(0, ([11, 22]), ()), (1, ([8, 16]), ()), (4, ([15, 30]), ())] : List (Int × (List UInt8 × Unit))).getD 1 (0, ([], ()))).1, ((([(0, ([11, 22]), ()), (1, ([8, 16]), ()), (4, ([15, 30]), ())] : List (Int × (List UInt8 × Unit))).getD 1 (0, ([], ()))).2).1, ()), (4, ([15, 31]), ())] : List (Int × (List UInt8 × Unit))) ++ ([(5, ([12, 24]), ())] : List (Int × (List UInt8 × Unit)))) 2 1).getD 0 0) = 4 by decide +kernel) h33⟩
  refine ⟨fun h34 => ?_, fun h34 => absurd (show ((rbH (([((([(0, ([11, 22]), ()), (1, ([8, 16]), ()), (4, ([15, 30]), ())] : List (Int × (List UInt8 × Unit))).getD 0 (0, ([], ()))).1, ((([(0, ([11, 22]), ()), (1, ([8, 16]), ()), (4, ([15, 30]), ())] : List (Int × (List UInt8 × Unit))).getD 0 (0, ([], ()))).2).1, ()), ((([(0, ([11, 22]), ()), (1, ([8, 16]), ()), (4, ([15, 30]), ())] : List (Int × (List UInt8 × Unit))).getD 1 (0, ([], ()))).1, ((([(0, ([11, 22]), ()), (1, ([8, 16]), ()), (4, ([15, 30]), ())] : List (Int × (List UInt8 × Unit))).getD 1 (0, ([], ()))).2).1, ()), (4, ([15, 31]), ())] : List (Int × (List UInt8 × Unit))) ++ ([(5, ([12, 24]), ())] : List (Int × (List UInt8 × Unit)))) 2 1).getD 0 0) = 4 by decide +kernel) h34⟩
  refine ⟨fun h35 => ?_, fun h35 => absurd (show (ftN ((([(0, ([11, 22]), ()), (1, ([8, 16]), ()), (4, ([15, 30]), ())] : List (Int × (List UInt8 × Unit))).drop 0).take (1 - 0)) 2 ([0, 0])) = 0 by decide +kernel) h35⟩
  refine ⟨fun h36 => ?_, fun h36 => absurd (show (ftN ((([(0, ([11, 22]), ()), (1, ([8, 16]), ()), (4, ([15, 30]), ())] : List (Int × (List UInt8 × Unit))).drop 0).take (1 - 0)) 2 ([0, 0])) = 0 by decide +kernel) h36⟩
  refine ⟨fun h37 => ?_, fun h37 => absurd (show ftP ((([(0, ([11, 22]), ()), (1, ([8, 16]), ()), (4, ([15, 30]), ())] : List (Int × (List UInt8 × Unit))).drop 0).take (1 - 0)) 2 ([0, 0]) by decide +kernel) h37⟩
  refine ⟨fun h38 => ?_, fun h38 => absurd (show ftP ((([(0, ([11, 22]), ()), (1, ([8, 16]), ()), (4, ([15, 30]), ())] : List (Int × (List UInt8 × Unit))).drop 0).take (1 - 0)) 2 ([0, 0]) by decide +kernel) h38⟩
  refine ⟨fun h39 => ?_, fun h39 => absurd (show ftP ((([(0, ([11, 22]), ()), (1, ([8, 16]), ()), (4, ([15, 30]), ())] : List (Int × (List UInt8 × Unit))).drop 0).take (1 - 0)) 2 ([0, 0]) by decide +kernel) h39⟩
  refine ⟨fun h40 => ?_, fun h40 => absurd (show (ftN ([]) 2 ([0, 0])) = 2 by decide +kernel) h40⟩
  refine ⟨fun h41 => ?_, fun h41 => absurd (show (ftN ([]) 2 ([0, 0])) = 2 by decide +kernel) h41⟩
  refine ⟨fun h42 => ?_, fun h42 => absurd (show ftP ([]) 2 ([0, 0]) by decide +kernel) h42⟩
  refine ⟨fun h43 => ?_, fun h43 => absurd (show ftP ([]) 2 ([0, 0]) by decide +kernel) h43⟩
  refine ⟨fun h44 => ?_, fun h44 => absurd (show ftP ([]) 2 ([0, 0]) by decide +kernel) h44⟩
  refine ⟨fun h45 => ?_, fun h45 => absurd (show (ftN ((([(0, ([11, 22]), ()), (1, ([8, 16]), ()), (4, ([15, 30]), ())] : List (Int × (List UInt8 × Unit))).drop 0).take (2 - 0)) 2 ([0, 0])) = 0 by decide +kernel) h45⟩
  refine ⟨fun h46 => ?_, fun h46 => absurd (show (ftN ((([(0, ([11, 22]), ()), (1, ([8, 16]), ()), (4, ([15, 30]), ())] : List (Int × (List UInt8 × Unit))).drop 0).take (2 - 0)) 2 ([0, 0])) = 0 by decide +kernel) h46⟩
  refine ⟨fun h47 => ?_, fun h47 => absurd (show (ftN ((([(0, ([11, 22]), ()), (1, ([8, 16]), ()), (4, ([15, 30]), ())] : List (Int × (List UInt8 × Unit))).drop 0).take (2 - 0)) 2 ([0, 0])) = 0 by decide +kernel) h47⟩
  refine ⟨fun h48 => ?_, fun h48 => absurd (show ¬ (ftP ((([(0, ([11, 22]), ()), (1, ([8, 16]), ()), (4, ([15, 30]), ())] : List (Int × (List UInt8 × Unit))).drop 0).take (2 - 0)) 2 ([0, 0])) by decide +kernel) h48⟩
  refine ⟨fun h49 => ?_, fun h49 => absurd (show ¬ (ftP ((([(0, ([11, 22]), ()), (1, ([8, 16]), ()), (4, ([15, 30]), ())] : List (Int × (List UInt8 × Unit))).drop 0).take (2 - 0)) 2 ([0, 0])) by decide +kernel) h49⟩
  refine ⟨by show ([(0, ([11, 22]), ()), (1, ([8, 16]), ()), (4, ([15, 30]), ())] : List (Int × (List UInt8 × Unit))).length ≤ 1048576; decide +kernel, fun h50 => ?_, fun h50 => absurd (show ¬ (ftP ((([(0, ([11, 22]), ()), (1, ([8, 16]), ()), (4, ([15, 30]), ())] : List (Int × (List UInt8 × Unit))).drop 0).take (2 - 0)) 2 ([0, 0])) by decide +kernel) h50⟩
  refine ⟨fun h51 => ?_, fun h51 => absurd (show ¬ (ftP ((([(0, ([11, 22]), ()), (1, ([8, 16]), ()), (4, ([15, 30]), ())] : List (Int × (List UInt8 × Unit))).drop 0).take (2 - 0)) 2 ([0, 0])) by decide +kernel) h51⟩
  refine ⟨fun h52 => ?_, fun h52 => absurd (show (chkE ([(0, ([11, 22]), ()), (1, ([8, 16]), ()), (4, ([15, 30]), ())] : List (Int × (List UInt8 × Unit)))) = 0 by decide +kernel) h52⟩
  refine ⟨fun h53 => ?_, fun h53 => absurd (show (chkE ([(0, ([11, 22]), ()), (1, ([8, 16]), ()), (4, ([15, 30]), ())] : List (Int × (List UInt8 × Unit)))) = 0 by decide +kernel) h53⟩
  refine ⟨⟨by show (0 : Int) ≤ 1; first | omega | decide +kernel, by show 1 < (([(0, ([11, 22]), ()), (1, ([8, 16]), ()), (4, ([15, 30]), ())] : List (Int × (List UInt8 × Unit))).length : Int); first | omega | decide +kernel⟩, fun h54 => ?_, fun h54 => absurd (show (chkE ([(0, ([11, 22]), ()), (1, ([8, 16]), ()), (4, ([15, 30]), ())] : List (Int × (List UInt8 × Unit)))) = 0 by decide +kernel) h54⟩
  refine ⟨fun h55 => ?_, fun h55 => absurd (show (chkE ([(0, ([11, 22]), ()), (1, ([8, 16]), ()), (4, ([15, 30]), ())] : List (Int × (List UInt8 × Unit)))) = 0 by decide +kernel) h55⟩
  refine ⟨fun h56 => ?_, fun h56 => absurd (show (chkE ([(0, ([11, 22]), ()), (1, ([8, 16]), ()), (4, ([15, 30]), ())] : List (Int × (List UInt8 × Unit)))) = 0 by decide +kernel) h56⟩
  refine ⟨⟨by show (0 : Int) ≤ 0; first | omega | decide +kernel, by show 0 < (([(0, ([11, 22]), ()), (1, ([8, 16]), ()), (4, ([15, 30]), ())] : List (Int × (List UInt8 × Unit))).length : Int); first | omega | decide +kernel⟩, fun h57 => ?_, fun h57 => absurd (show (chkE ([(0, ([11, 22]), ()), (1, ([8, 16]), ()), (4, ([15, 30]), ())] : List (Int × (List UInt8 × Unit)))) = 0 by decide +kernel) h57⟩
  refine ⟨fun h58 => ?_, fun h58 => absurd (show (chkE ([(0, ([11, 22]), ()), (1, ([8, 16]), ()), (4, ([15, 30]), ())] : List (Int × (List UInt8 × Unit)))) = 0 by decide +kernel) h58⟩
  refine ⟨rfl, rfl, fun h59 => ?_, fun h59 => absurd (show (chkE ([(0, ([11, 22]), ()), (1, ([8, 16]), ()), (4, ([15, 30]), ())] : List (Int × (List UInt8 × Unit)))) = 0 by decide +kernel) h59⟩
  refine ⟨by show ([((([(0, ([11, 22]), ()), (1, ([8, 16]), ()), (4, ([15, 30]), ())] : List (Int × (List UInt8 × Unit))).getD 1 (0, ([], ()))).1, ((([(0, ([11, 22]), ()), (1, ([8, 16]), ()), (4, ([15, 30]), ())] : List (Int × (List UInt8 × Unit))).getD 1 (0, ([], ()))).2).1, ()), ((([(0, ([11, 22]), ()), (1, ([8, 16]), ()), (4, ([15, 30]), ())] : List (Int × (List UInt8 × Unit))).getD 0 (0, ([], ()))).1, ((([(0, ([11, 22]), ()), (1, ([8, 16]), ()), (4, ([15, 30]), ())] : List (Int × (List UInt8 × Unit))).getD 0 (0, ([], ()))).2).1, ())] : List (Int × (List UInt8 × Unit))).length ≤ 1048576; decide +kernel, fun h60 => ?_, fun h60 => absurd (show (chkE ([(0, ([11, 22]), ()), (1, ([8, 16]), ()), (4, ([15, 30]), ())] : List (Int × (List UInt8 × Unit)))) = 0 by decide +kernel) h60⟩
  refine ⟨fun h61 => ?_, fun h61 => absurd (show (chkE ([(0, ([11, 22]), ()), (1, ([8, 16]), ()), (4, ([15, 30]), ())] : List (Int × (List UInt8 × Unit)))) = 0 by decide +kernel) h61⟩
  exact ⟨rfl, rfl, congrArg V.b (propext ⟨fun _ => trivial, fun _ => by show (chkE ([((([(0, ([11, 22]), ()), (1, ([8, 16]), ()), (4, ([15, 30]), ())] : List (Int × (List UInt8 × Unit))).getD 1 (0, ([], ()))).1, ((([(0, ([11, 22]), ()), (1, ([8, 16]), ()), (4, ([15, 30]), ())] : List (Int × (List UInt8 × Unit))).getD 1 (0, ([], ()))).2).1, ()), ((([(0, ([11, 22]), ()), (1, ([8, 16]), ()), (4, ([15, 30]), ())] : List (Int × (List UInt8 × Unit))).getD 0 (0, ([], ()))).1, ((([(0, ([11, 22]), ()), (1, ([8, 16]), ()), (4, ([15, 30]), ())] : List (Int × (List UInt8 × Unit))).getD 0 (0, ([], ()))).2).1, ())] : List (Int × (List UInt8 × Unit)))) = 1; decide +kernel⟩), rfl⟩
def CSan : List (Nat × Con) := (12, pureC [] sSan) :: CSml
theorem kSan : Known Tryd.prog (En CSan tys G6 QCo2) := Known.frz0 <| (kSml.frz [1000001, 1000002]).add Tryd.func12 Tryd.call12 [.k] fun ds p v bs h hp => by
  unfold sSan at h
  split at h <;> simp only [Option.some.injEq, Prod.mk.injEq, reduceCtorEq] at h
  obtain ⟨rfl, rfl, rfl⟩ := h
  exact bSan 
end Go.Proofs.YtakbedmeieeekaaDoor.S26

namespace Go.Proofs.YtakbedmeieeekaaDoor.S26
open Go Go.Proofs.YtakbedmeieeekaaDoor.Vc

/-! ### how large the parts of a datum are -/
theorem wt_mem {t : Ty} {xs : List t.D} {x : t.D} (h : x ∈ xs) : wt t x + 1 ≤ wt (.sl t) xs := by
  have e : wt (.sl t) xs = (xs.map (wt t)).sum + 1 := rfl
  rw [e]
  clear e
  induction xs with
  | nil => cases h
  | cons y ys ih =>
    rw [List.map_cons, List.sum_cons]
    rcases List.mem_cons.1 h with rfl | h
    · omega
    · have := ih h; omega
theorem wt_len {t : Ty} (h1 : ∀ x, 1 ≤ wt t x) (xs : List t.D) : xs.length + 1 ≤ wt (.sl t) xs := by
  have e : wt (.sl t) xs = (xs.map (wt t)).sum + 1 := rfl
  rw [e]
  clear e
  induction xs with
  | nil => simp
  | cons x xs ih => have := h1 x; rw [List.map_cons, List.sum_cons, List.length_cons]; omega
theorem wt_s (s : List UInt8) : wt .str s = s.length + 1 := rfl
theorem wt_sh (s : (Int × List UInt8 × Unit)) : wt (Ty.cons (.int .i64) (.cons .str .nil)) s = 1 + ((s.2.1.length + 1) + 0) := rfl
theorem mxS {l : List (Int × List UInt8 × Unit)} {N : Nat} (h : wt (.sl (Ty.cons (.int .i64) (.cons .str .nil))) l ≤ N) : l.length ≤ N ∧ ∀ s ∈ l, s.2.1.length ≤ N := by
  refine ⟨?_, fun s hs => ?_⟩
  · have := wt_len (t := (Ty.cons (.int .i64) (.cons .str .nil))) (fun x => by rw [wt_sh]; omega) l; omega
  · have := wt_mem (t := (Ty.cons (.int .i64) (.cons .str .nil))) hs; rw [wt_sh] at this; omega
theorem wt_task (t : (Ty.cons .str (.cons (.int .i64) (.cons (.sl (.int .i64)) (.cons .str .nil)))).D) : wt (Ty.cons .str (.cons (.int .i64) (.cons (.sl (.int .i64)) (.cons .str .nil)))) t = (t.1.length + 1) + (1 + (wt (.sl (.int .i64)) t.2.2.1 + ((t.2.2.2.1.length + 1) + 0))) := rfl
theorem mxT {t : (Ty.cons .str (.cons (.int .i64) (.cons (.sl (.int .i64)) (.cons .str .nil)))).D} {N : Nat} (h : wt (Ty.cons .str (.cons (.int .i64) (.cons (.sl (.int .i64)) (.cons .str .nil)))) t ≤ N) : t.1.length ≤ N ∧ t.2.2.1.length ≤ N ∧ t.2.2.2.1.length ≤ N := by
  rw [wt_task] at h
  have := wt_len (t := .int .i64) (fun x => Nat.le_refl 1) t.2.2.1
  exact ⟨by omega, by have : List.length (α := Int) t.2.2.1 + 1 ≤ _ := this; omega, by omega⟩
end Go.Proofs.YtakbedmeieeekaaDoor.S26

namespace Go.Proofs.YtakbedmeieeekaaDoor.Cd
open Go Go.Proofs.YtakbedmeieeekaaDoor.Vc Go.Proofs Go.Proofs.YtakbedmeieeekaaDoor.S26 Go.ChangeShapes Go.WideShapes Go.ChangeAt Go.RowKit
set_option maxRecDepth 100000
set_option linter.unusedVariables false

theorem bulkAll {H : Type} : ∀ l : List (DataW H), Rows.uptoBulkAll l = (l.map Rows.uptoBulk).sum
  | [] => rfl
  | d :: l => by rw [Rows.uptoBulkAll, bulkAll l]; rfl
theorem bulk {H : Type} : Bulk (H := H) Rows.uptoBulk where
  one d := by cases d with
    | lit l => cases l <;> simp [Rows.uptoBulk]
    | _ => simp [Rows.uptoBulk]
  str b := by simp [Rows.uptoBulk]
  sl es sp := by rw [Rows.uptoBulk, bulkAll, bulkAll]; omega
  agg ps := by rw [Rows.uptoBulk, bulkAll]; omega
theorem wt_cons (t ts : Ty) (x : (Ty.cons t ts).D) : wt (.cons t ts) x = wt t x.1 + wt ts x.2 := rfl
theorem wt_int (k : IntKind) (x : Int) : wt (.int k) x = 1 := rfl
theorem wt_nil (x : Unit) : wt .nil x = 0 := rfl
theorem laidOut : laidOutB Tryd.prog = true := by kernel_rfl
theorem own : ownKnob Tryd.prog.godebug = none := by kernel_rfl

section
variable {H : Type} {enc : TypeId × Value → H} {P : Program}
theorem post_same {f : Func} {s : ChangeSpec} {apart fresh handsOn again : Bool} {W W' : World} {args : Array Value} {v : Value} {ds gs : List (DataW H)} {before pa pv : List MemPlace}
    (hW : DataW.Whole enc P f.params.toList s.vars apart W args.toList ds gs before)
    (hres : ∀ (b : Nat) (sp : Nat → Bool) (hd : Bool), DataW.TrodAll enc P W' b sp hd f.resultTypes.toList (v.resultList f.resultTypes.size) (s.fn H (ds ++ gs)).results [])
    (hargs : ∀ sp : Nat → Bool, (∀ p ∈ before, sp p.block = true) → DataW.TrodAll enc P W' 0 sp true f.params.toList args.toList (s.fn H (ds ++ gs)).args pa)
    (hvars : ∀ sp : Nat → Bool, (∀ p ∈ before, sp p.block = true) → DataW.TrodVars enc P W' sp s.vars (s.fn H (ds ++ gs)).vars pv)
    (hps : before = pa ++ pv) (hb : Below W.heap.size W W')
    (hok : ∀ (j : Nat) (t : TypeId) (r : Value), f.resultTypes[j]? = some t → (v.resultList f.resultTypes.size)[j]? = some r → Value.okWide P W' .any 0 t r) :
    s.post enc P f apart fresh handsOn again W args v W' := by
  have hlt : ∀ p ∈ before, p.block < W.heap.size := fun p hp => by simpa using hW.lt p hp
  have hold : ∀ p ∈ before, (fun b => decide (b < W.heap.size)) p.block = true := fun p hp => by simpa using hW.lt p hp
  refine ⟨ds, gs, before, [], pa, pv, hW, hres _ _ _, hargs _ hold, hvars _ hold, World.keptBut_mono (fun p hp => ⟨hp, ?_⟩) (hb.frame (· ∈ before)), fun _ => ?_⟩
  · rw [hps, List.mem_append] at hp
    exact Or.inr hp
  · obtain ⟨_, _, _, _, _, hz, hn⟩ := hW
    refine ⟨hok, _, _, ([] ++ pa) ++ pv, ⟨[] ++ pa, pv, trodAll_append (hargs _ (fun _ _ => rfl)) (hres _ _ _), hvars _ (fun _ _ => rfl), rfl, ?_, ?_⟩, ?_⟩
    · intro b off hp
      have hp' : MemPlace.cell b off ∈ before := by rw [hps]; simpa using hp
      rw [hb.frozen (hlt _ hp')]
      exact hz b off hp'
    · intro ha
      have := hn ha
      rw [hps] at this
      simpa using this
    · intro p hp _
      rw [hps]
      simpa using hp
end
end Go.Proofs.YtakbedmeieeekaaDoor.Cd

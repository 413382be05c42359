/- Texts of this claim: S27d.A5, S27d.Pe, S27d.L0, S27d.L3, S27d.PolyL, S27d.RefA, S27d.RefB, S27d.Pf, S27d.Pg, S27d.Pu, S27d.H0. -/
import Derived.Test.YtcodgflbafanlaaDoorS7
import Derived.Test.YtcodgflbafanlaaDoorS8
import Derived.Test.YtcodgflbafanlaaDoorS9
import Derived.Test.YtcodgflbafanlaaDoorS10
import Derived.Test.YtcodgflbafanlaaDoorS11
import Derived.Test.YtcodgflbafanlaaDoorS2
import Derived.Test.YtcodgflbafanlaaDoorS0
import Derived.Test.YtcodgflbafanlaaDoorS1
set_option linter.unusedVariables false
set_option linter.unusedSimpArgs false
namespace Go.Proofs.YtcodgflbafanlaaDoor.S27
open Go Go.Proofs.YtcodgflbafanlaaDoor.Vc Go.Proofs
set_option maxRecDepth 100000
set_option linter.unusedVariables false

def sMk : List V → Option (Prop × V × List Blk)
  | [.int .i64 nd, .int .i64 sz, .str nz] => some (True, .tup [.agg [.int .i64 (mkN nd sz nz), .sl true (.sl .str) (mkC nd sz nz)], .int .i64 (mkE nd sz nz)], [])
  | _ => none
set_option maxHeartbeats 1000000 in
theorem bMk (nd : Int) (sz : Int) (nz : List UInt8)  : bodyP (En CRk tys G6 QPrs [1000000, 1000001]) Tryd.f6 [.m 1 .str, .k] [.int .i64 nd, .int .i64 sz, .str nz] (.tup [.agg [.int .i64 (mkN nd sz nz), .sl true (.sl .str) (mkC nd sz nz)], .int .i64 (mkE nd sz nz)]) [] := by
  by_cases hn : nd < 2 ∨ 12 < nd ∨ sz < 0 ∨ 4096 < sz
  · obtain ⟨e1, e2, e3⟩ := mkE3 (s := nz) hn
    rw [e1, e2, e3]; exact bMk0 nd sz nz hn
  · by_cases hl : (nz.length : Int) = sz * (((nd - 1) * nd) / 2)
    · obtain ⟨e1, e2, e3⟩ := mkE0 hn hl
      rw [e1, e2, e3]
      obtain rfl | rfl | rfl | rfl | rfl | rfl | rfl | rfl | rfl | rfl | rfl : nd = 2 ∨ nd = 3 ∨ nd = 4 ∨ nd = 5 ∨ nd = 6 ∨ nd = 7 ∨ nd = 8 ∨ nd = 9 ∨ nd = 10 ∨ nd = 11 ∨ nd = 12 := by omega
      · exact bMk2 sz nz (by omega) (by omega) (by omega)
      · exact bMk3 sz nz (by omega) (by omega) (by omega)
      · exact bMk4 sz nz (by omega) (by omega) (by omega)
      · exact bMk5 sz nz (by omega) (by omega) (by omega)
      · exact bMk6 sz nz (by omega) (by omega) (by omega)
      · exact bMk7 sz nz (by omega) (by omega) (by omega)
      · exact bMk8 sz nz (by omega) (by omega) (by omega)
      · exact bMk9 sz nz (by omega) (by omega) (by omega)
      · exact bMk10 sz nz (by omega) (by omega) (by omega)
      · exact bMk11 sz nz (by omega) (by omega) (by omega)
      · exact bMk12 sz nz (by omega) (by omega) (by omega)
    · obtain ⟨e1, e2, e3⟩ := mkE1 hn hl
      rw [e1, e2, e3]
      obtain ⟨p1, p2, p3⟩ := prod_bd (nd := nd) (sz := sz) (by omega) (by omega) (by omega) (by omega)
      exact bMkN nd sz nz (by omega) (by omega) (by omega) (by omega) p1 p2 (by rw [p3]; exact hl)
def CMk : List (Nat × Con) := (6, pureC [.v (.int .i64), .v (.int .i64), .v .str] sMk) :: CRk
theorem kMk : Known Tryd.prog (En CMk tys G6 QPrs) := Known.frz0 <| (kRk.frz [1000000, 1000001]).add Tryd.func6 Tryd.call6 [.m 1 .str, .k] fun ds p v bs h hp => by
  unfold sMk at h
  split at h <;> simp only [Option.some.injEq, Prod.mk.injEq, reduceCtorEq] at h
  obtain ⟨rfl, rfl, rfl⟩ := h
  exact bMk _ _ _
end Go.Proofs.YtcodgflbafanlaaDoor.S27

namespace Go.Proofs.YtcodgflbafanlaaDoor.S27
open Go

/-! ### what the statements ask beside the program -/
theorem same_next {α : Type} {d : α} {a b : List α} {k : Nat} (hk : k < a.length) (hl : a.length = b.length) (h : a.take k = b.take k) (he : a.getD k d = b.getD k d) : a.take (k + 1) = b.take (k + 1) := by
  rw [takeD d a k hk, takeD d b k (by omega), h, he]
theorem same_end {α : Type} {a b : List α} {k : Nat} (hk : a.length ≤ k) (hl : a.length = b.length) (h : a.take k = b.take k) : a = b := by
  rwa [List.take_of_length_le hk, List.take_of_length_le (by omega)] at h
theorem no_b {p : Prop} (h : ¬ p) : (false = true) = p := propext ⟨fun g => Bool.noConfusion g, fun g => absurd g h⟩
theorem yes_b {p : Prop} (h : p) : (true = true) = p := propext ⟨fun _ => h, fun _ => rfl⟩
def shP (r : Rw) (n : Int) : Prop := r.length ≤ 20 ∧ r.all (fun s => decide ((s.length : Int) ≤ n)) = true
instance (r : Rw) (n : Int) : Decidable (shP r n) := by unfold shP; infer_instance
def fewP (rows : List Rw) (n : Int) : Prop := rows.length ≤ 14 ∧ rows.all (fun r => decide (shP r n)) = true
instance (r : List Rw) (n : Int) : Decidable (fewP r n) := by unfold fewP; infer_instance
def lightP (nd : Int) (cf : List Rw) : Prop := fewP cf 30 ∧ chkD nd cf = 0
instance (nd : Int) (r : List Rw) : Decidable (lightP nd r) := by unfold lightP; infer_instance
def bitP (s : Int) (h : Nat) : Prop := s / 2 ^ h % 2 = 1
instance (s : Int) (h : Nat) : Decidable (bitP s h) := by unfold bitP; infer_instance
end Go.Proofs.YtcodgflbafanlaaDoor.S27

namespace Go.Proofs.YtcodgflbafanlaaDoor.S27
open Go Go.Proofs.YtcodgflbafanlaaDoor.Vc Go.Proofs
set_option maxRecDepth 100000
set_option linter.unusedVariables false

def sSme : List V → Option (Prop × V × List Blk)
  | [.sl false .str a, .sl false .str b] => some (a.length ≤ 1048576 ∧ b.length ≤ 1048576, .b (a = b), [])
  | _ => none
set_option maxHeartbeats 1000000 in
theorem bSme (a : List (List UInt8)) (b : List (List UInt8)) (hp0 : a.length ≤ 1048576) (hp1 : b.length ≤ 1048576) : bodyP (En CMk tys G6 QPrs) Tryd.f13 [.k] [.sl false .str a, .sl false .str b] (.b (a = b)) [] := by
  refine ⟨fun h0 => ?_, fun h0 => ?_⟩
  · replace h0 : (a.length : Int) ≠ (b.length : Int) := h0
    exact ⟨rfl, rfl, congrArg V.b (no_b (fun h => h0 (by rw [h]))), rfl⟩
  · replace h0 : ¬ ((a.length : Int) ≠ (b.length : Int)) := h0
    have hl : a.length = b.length := by omega
    refine ⟨0, [(0, .k), (1, .k), (5, .k)], fun nM vs H => ∃ (k : Nat), k ≤ a.length ∧ a.take k = b.take k ∧ nM = a.length - k ∧ vs = [.sl false .str a, .sl false .str b, .int .i64 (k : Int)] ∧ H = [], ⟨rfl, a.length, 0, by omega, rfl, by omega, rfl, rfl⟩, ?_⟩
    rintro nM vs H ⟨k, hc1_0, hc1_1, rfl, rfl, rfl⟩
    refine ⟨fun h1 => ?_, fun h1 => ?_⟩
    · replace h1 : (k : Int) < (a.length : Int) := h1
      have hk : k < a.length := by omega
      refine ⟨by kernel_rfl, ⟨by show (0 : Int) ≤ (k : Int); omega, by show (k : Int) < (a.length : Int); omega⟩, ⟨by show (0 : Int) ≤ (k : Int); omega, by show (k : Int) < (b.length : Int); omega⟩, fun h2 => ?_, fun h2 => ?_⟩
      · replace h2 : (a.getD k []) ≠ (b.getD k []) := h2
        exact ⟨rfl, rfl, congrArg V.b (no_b (fun h => h2 (by rw [h]))), rfl⟩
      · replace h2 : ¬ ((a.getD k []) ≠ (b.getD k [])) := h2
        refine ⟨⟨by show (-9223372036854775808 : Int) ≤ ((k : Int) + 1); omega, by show ((k : Int) + 1) ≤ (9223372036854775807 : Int); omega⟩, ?_⟩
        exact ⟨rfl, a.length - (k + 1), by omega, k + 1, by omega, same_next (d := []) hk hl hc1_1 (Classical.not_not.1 h2), rfl, rfl, rfl⟩
    · replace h1 : ¬ ((k : Int) < (a.length : Int)) := h1
      exact ⟨rfl, rfl, congrArg V.b (yes_b (same_end (by omega) hl hc1_1)), rfl⟩
def CSme : List (Nat × Con) := (13, pureC [.v (.sl .str), .v (.sl .str)] sSme) :: CMk
theorem kSme : Known Tryd.prog (En CSme tys G6 QPrs) := kMk.add Tryd.func13 Tryd.call13 [.k] fun ds p v bs h hp => by
  unfold sSme at h
  split at h <;> simp only [Option.some.injEq, Prod.mk.injEq, reduceCtorEq] at h
  obtain ⟨rfl, rfl, rfl⟩ := h
  exact bSme _ _ hp.1 hp.2
def sSmP : List V → Option (Prop × V × List Blk)
  | [.sl false (.arr 2 (.int .i64)) a, .sl false (.arr 2 (.int .i64)) b] => some (a.length ≤ 1048576 ∧ b.length ≤ 1048576, .b (a = b), [])
  | _ => none
set_option maxHeartbeats 1000000 in
theorem bSmP (a : List (List Int)) (b : List (List Int)) (hp0 : a.length ≤ 1048576) (hp1 : b.length ≤ 1048576) : bodyP (En CSme tys G6 QPrs) Tryd.f20 [.k] [.sl false (.arr 2 (.int .i64)) a, .sl false (.arr 2 (.int .i64)) b] (.b (a = b)) [] := by
  refine ⟨fun h0 => ?_, fun h0 => ?_⟩
  · replace h0 : (a.length : Int) ≠ (b.length : Int) := h0
    exact ⟨rfl, rfl, congrArg V.b (no_b (fun h => h0 (by rw [h]))), rfl⟩
  · replace h0 : ¬ ((a.length : Int) ≠ (b.length : Int)) := h0
    have hl : a.length = b.length := by omega
    refine ⟨0, [(0, .k), (1, .k), (5, .k)], fun nM vs H => ∃ (k : Nat), k ≤ a.length ∧ a.take k = b.take k ∧ nM = a.length - k ∧ vs = [.sl false (.arr 2 (.int .i64)) a, .sl false (.arr 2 (.int .i64)) b, .int .i64 (k : Int)] ∧ H = [], ⟨rfl, a.length, 0, by omega, rfl, by omega, rfl, rfl⟩, ?_⟩
    rintro nM vs H ⟨k, hc1_0, hc1_1, rfl, rfl, rfl⟩
    refine ⟨fun h1 => ?_, fun h1 => ?_⟩
    · replace h1 : (k : Int) < (a.length : Int) := h1
      have hk : k < a.length := by omega
      refine ⟨by kernel_rfl, ⟨by show (0 : Int) ≤ (k : Int); omega, by show (k : Int) < (a.length : Int); omega⟩, ⟨by show (0 : Int) ≤ (k : Int); omega, by show (k : Int) < (b.length : Int); omega⟩, fun h2 => ?_, fun h2 => ?_⟩
      · replace h2 : ¬ ((a.getD k (List.replicate 2 0)) = (b.getD k (List.replicate 2 0))) := h2
        exact ⟨rfl, rfl, congrArg V.b (no_b (fun h => h2 (by rw [h]))), rfl⟩
      · replace h2 : ¬ (¬ ((a.getD k (List.replicate 2 0)) = (b.getD k (List.replicate 2 0)))) := h2
        refine ⟨⟨by show (-9223372036854775808 : Int) ≤ ((k : Int) + 1); omega, by show ((k : Int) + 1) ≤ (9223372036854775807 : Int); omega⟩, ?_⟩
        exact ⟨rfl, a.length - (k + 1), by omega, k + 1, by omega, same_next (d := (List.replicate 2 0)) hk hl hc1_1 (Classical.not_not.1 h2), rfl, rfl, rfl⟩
    · replace h1 : ¬ ((k : Int) < (a.length : Int)) := h1
      exact ⟨rfl, rfl, congrArg V.b (yes_b (same_end (by omega) hl hc1_1)), rfl⟩
def CSmP : List (Nat × Con) := (20, pureC [.v (.sl (.arr 2 (.int .i64))), .v (.sl (.arr 2 (.int .i64)))] sSmP) :: CSme
theorem kSmP : Known Tryd.prog (En CSmP tys G6 QPrs) := kSme.add Tryd.func20 Tryd.call20 [.k] fun ds p v bs h hp => by
  unfold sSmP at h
  split at h <;> simp only [Option.some.injEq, Prod.mk.injEq, reduceCtorEq] at h
  obtain ⟨rfl, rfl, rfl⟩ := h
  exact bSmP _ _ hp.1 hp.2
def sSho : List V → Option (Prop × V × List Blk)
  | [.sl false .str r, .int .i64 z] => some (r.length ≤ 1048576 ∧ (∀ x ∈ r, x.length ≤ 1048576), .b (shP r z), [])
  | _ => none
set_option maxHeartbeats 1000000 in
theorem bSho (r : List (List UInt8)) (z : Int) (hp0 : r.length ≤ 1048576) (hp1 : (∀ x ∈ r, x.length ≤ 1048576)) : bodyP (En CSmP tys G6 QPrs) Tryd.f14 [.k] [.sl false .str r, .int .i64 z] (.b (shP r z)) [] := by
  refine ⟨fun h0 => ?_, fun h0 => ?_⟩
  · replace h0 : 20 < (r.length : Int) := h0
    exact ⟨rfl, rfl, congrArg V.b (no_b (fun h => by have := h.1; omega)), rfl⟩
  · replace h0 : ¬ (20 < (r.length : Int)) := h0
    refine ⟨0, [(0, .k), (1, .k), (5, .k)], fun nM vs H => ∃ (k : Nat), k ≤ r.length ∧ (r.drop k).all (fun s => decide ((s.length : Int) ≤ z)) = r.all (fun s => decide ((s.length : Int) ≤ z)) ∧ nM = r.length - k ∧ vs = [.sl false .str r, .int .i64 z, .int .i64 (k : Int)] ∧ H = [], ⟨rfl, r.length, 0, by omega, rfl, by omega, rfl, rfl⟩, ?_⟩
    rintro nM vs H ⟨k, hc1_0, hc1_1, rfl, rfl, rfl⟩
    refine ⟨fun h1 => ?_, fun h1 => ?_⟩
    · replace h1 : (k : Int) < (r.length : Int) := h1
      have hk : k < r.length := by omega
      have hkx := hp1 _ (getD_mem [] r k hk)
      refine ⟨⟨by show (0 : Int) ≤ (k : Int); omega, by show (k : Int) < (r.length : Int); omega⟩, fun h2 => ?_, fun h2 => ?_⟩
      · replace h2 : z < (((r.getD k []).length : Nat) : Int) := h2
        exact ⟨rfl, rfl, congrArg V.b (no_b (fun h => by have := all_bad (d := []) hk hc1_1 (p := fun s => decide ((s.length : Int) ≤ z)) (decide_eq_false (by omega)); rw [h.2] at this; cases this)), rfl⟩
      · replace h2 : ¬ (z < (((r.getD k []).length : Nat) : Int)) := h2
        have hok : decide (((r.getD k []).length : Int) ≤ z) = true := decide_eq_true (by omega)
        refine ⟨⟨by show (-9223372036854775808 : Int) ≤ ((k : Int) + 1); omega, by show ((k : Int) + 1) ≤ (9223372036854775807 : Int); omega⟩, ?_⟩
        exact ⟨rfl, r.length - (k + 1), by omega, k + 1, by omega, all_next (d := []) hk hc1_1 hok, rfl, rfl, rfl⟩
    · replace h1 : ¬ ((k : Int) < (r.length : Int)) := h1
      exact ⟨rfl, rfl, congrArg V.b (yes_b ⟨by omega, all_stop (by omega) hc1_1⟩), rfl⟩
def CSho : List (Nat × Con) := (14, pureC [.v (.sl .str), .v (.int .i64)] sSho) :: CSmP
theorem kSho : Known Tryd.prog (En CSho tys G6 QPrs) := kSmP.add Tryd.func14 Tryd.call14 [.k] fun ds p v bs h hp => by
  unfold sSho at h
  split at h <;> simp only [Option.some.injEq, Prod.mk.injEq, reduceCtorEq] at h
  obtain ⟨rfl, rfl, rfl⟩ := h
  exact bSho _ _ hp.1 hp.2
def sFew : List V → Option (Prop × V × List Blk)
  | [.sl false (.sl .str) r, .int .i64 z] => some (r.length ≤ 1048576 ∧ (∀ l ∈ r, l.length ≤ 1048576 ∧ ∀ x ∈ l, x.length ≤ 1048576), .b (fewP r z), [])
  | _ => none
set_option maxHeartbeats 1000000 in
theorem bFew (r : List (List (List UInt8))) (z : Int) (hp0 : r.length ≤ 1048576) (hp1 : (∀ l ∈ r, l.length ≤ 1048576 ∧ ∀ x ∈ l, x.length ≤ 1048576)) : bodyP (En CSho tys G6 QPrs) Tryd.f4 [.k] [.sl false (.sl .str) r, .int .i64 z] (.b (fewP r z)) [] := by
  refine ⟨fun h0 => ?_, fun h0 => ?_⟩
  · replace h0 : 14 < (r.length : Int) := h0
    exact ⟨rfl, rfl, congrArg V.b (no_b (fun h => by have := h.1; omega)), rfl⟩
  · replace h0 : ¬ (14 < (r.length : Int)) := h0
    refine ⟨0, [(0, .k), (1, .k), (5, .k)], fun nM vs H => ∃ (k : Nat), k ≤ r.length ∧ (r.drop k).all (fun r => decide (shP r z)) = r.all (fun r => decide (shP r z)) ∧ nM = r.length - k ∧ vs = [.sl false (.sl .str) r, .int .i64 z, .int .i64 (k : Int)] ∧ H = [], ⟨rfl, r.length, 0, by omega, rfl, by omega, rfl, rfl⟩, ?_⟩
    rintro nM vs H ⟨k, hc1_0, hc1_1, rfl, rfl, rfl⟩
    refine ⟨fun h1 => ?_, fun h1 => ?_⟩
    · replace h1 : (k : Int) < (r.length : Int) := h1
      have hk : k < r.length := by omega
      have hkx := hp1 _ (getD_mem [] r k hk)
      refine ⟨⟨by show (0 : Int) ≤ (k : Int); omega, by show (k : Int) < (r.length : Int); omega⟩, rfl, ⟨hkx.1, hkx.2⟩, fun h2 => ?_, fun h2 => ?_⟩
      · replace h2 : ¬ (shP (r.getD k []) z) := h2
        exact ⟨rfl, rfl, congrArg V.b (no_b (fun h => by have := all_bad (d := []) hk hc1_1 (p := fun r => decide (shP r z)) (decide_eq_false h2); rw [h.2] at this; cases this)), rfl⟩
      · replace h2 : ¬ (¬ (shP (r.getD k []) z)) := h2
        have hok : decide (shP (r.getD k []) z) = true := decide_eq_true (Classical.not_not.1 h2)
        refine ⟨⟨by show (-9223372036854775808 : Int) ≤ ((k : Int) + 1); omega, by show ((k : Int) + 1) ≤ (9223372036854775807 : Int); omega⟩, ?_⟩
        exact ⟨rfl, r.length - (k + 1), by omega, k + 1, by omega, all_next (d := []) hk hc1_1 hok, rfl, rfl, rfl⟩
    · replace h1 : ¬ ((k : Int) < (r.length : Int)) := h1
      exact ⟨rfl, rfl, congrArg V.b (yes_b ⟨by omega, all_stop (by omega) hc1_1⟩), rfl⟩
def CFew : List (Nat × Con) := (4, pureC [.v (.sl (.sl .str)), .v (.int .i64)] sFew) :: CSho
theorem kFew : Known Tryd.prog (En CFew tys G6 QPrs) := kSho.add Tryd.func4 Tryd.call4 [.k] fun ds p v bs h hp => by
  unfold sFew at h
  split at h <;> simp only [Option.some.injEq, Prod.mk.injEq, reduceCtorEq] at h
  obtain ⟨rfl, rfl, rfl⟩ := h
  exact bFew _ _ hp.1 hp.2
end Go.Proofs.YtcodgflbafanlaaDoor.S27

namespace Go.Proofs.YtcodgflbafanlaaDoor.S27
open Go Go.Proofs.YtcodgflbafanlaaDoor.Vc Go.Proofs
set_option maxRecDepth 100000
set_option linter.unusedVariables false

def sSan : List V → Option (Prop × V × List Blk)
  | [] => some (True, .b True, [])
  | _ => none
set_option maxHeartbeats 8000000 in
theorem bSan   : bodyP (En CFew tys G6 QPrs [1000001, 1000002]) Tryd.f5 [.k] [] (.b True) [] := by
  refine ⟨rfl, rfl, trivial, ⟨rfl, rfl, rfl, Nat.le_of_ble_eq_true rfl⟩, .inr ?_⟩
  refine ⟨fun h0 => ?_, fun h0 => absurd (show (0 : Int) < 3 by decide +kernel) h0⟩
  refine ⟨rfl, rfl, ⟨by show (mkC 3 1 ([5, 6, 7])).length ≤ 1048576; decide +kernel, by show (∀ l ∈ (mkC 3 1 ([5, 6, 7])), l.length ≤ 1048576 ∧ ∀ x ∈ l, x.length ≤ 1048576); decide +kernel⟩, ⟨by show (0 : Int) ≤ 0; first | omega | decide +kernel, by show 0 < (([[10], [20], [30]] : List (List UInt8)).length : Int); first | omega | decide +kernel⟩, rfl, ⟨by show ([rowL (mkN 3 1 ([5, 6, 7])) (mkC 3 1 ([5, 6, 7])) 0] : List (List (List UInt8))).length ≤ 1048576; decide +kernel, by show (∀ l ∈ ([rowL (mkN 3 1 ([5, 6, 7])) (mkC 3 1 ([5, 6, 7])) 0] : List (List (List UInt8))), l.length ≤ 1048576); decide +kernel⟩, ⟨rfl, rfl, rfl, Nat.le_of_ble_eq_true rfl⟩, fun h1 => ?_, fun h1 => absurd h1 (show ¬ ((rowE (mkN 3 1 ([5, 6, 7])) (mkC 3 1 ([5, 6, 7])) 0) ≠ 0) by decide +kernel)⟩
  refine ⟨fun h2 => ?_, fun h2 => absurd h2 (show ¬ ((updE 0 (([[10], [20], [30]] : List (List UInt8)).getD 0 []) ([rowL (mkN 3 1 ([5, 6, 7])) (mkC 3 1 ([5, 6, 7])) 0] : List (List (List UInt8)))) ≠ 0) by decide +kernel)⟩
  refine ⟨fun h3 => absurd h3 (show ¬ ((updH 0 (([[10], [20], [30]] : List (List UInt8)).getD 0 []) ([rowL (mkN 3 1 ([5, 6, 7])) (mkC 3 1 ([5, 6, 7])) 0] : List (List (List UInt8)))) ≠ 0) by decide +kernel), fun h3 => ?_⟩
  refine ⟨by show ([rowL (mkN 3 1 ([5, 6, 7])) (mkC 3 1 ([5, 6, 7])) 0] : List (List (List UInt8))).length ≤ 1000000000; first | omega | decide +kernel, rfl, by show ([(updH 0 (([[10], [20], [30]] : List (List UInt8)).getD 0 []) ([rowL (mkN 3 1 ([5, 6, 7])) (mkC 3 1 ([5, 6, 7])) 0] : List (List (List UInt8))), updS 0 (([[10], [20], [30]] : List (List UInt8)).getD 0 []) ([rowL (mkN 3 1 ([5, 6, 7])) (mkC 3 1 ([5, 6, 7])) 0] : List (List (List UInt8))), ())] : List (Int × (List UInt8 × Unit))).length ≤ 1000000000; first | omega | decide +kernel, ⟨by show (-9223372036854775808 : Int) ≤ 1; first | omega | decide +kernel, by show 1 ≤ (9223372036854775807 : Int); first | omega | decide +kernel⟩, fun h4 => ?_, fun h4 => absurd (show (1 : Int) < 3 by decide +kernel) h4⟩
  refine ⟨rfl, rfl, ⟨by show (mkC 3 1 ([5, 6, 7])).length ≤ 1048576; decide +kernel, by show (∀ l ∈ (mkC 3 1 ([5, 6, 7])), l.length ≤ 1048576 ∧ ∀ x ∈ l, x.length ≤ 1048576); decide +kernel⟩, ⟨by show (0 : Int) ≤ 1; first | omega | decide +kernel, by show 1 < (([[10], [20], [30]] : List (List UInt8)).length : Int); first | omega | decide +kernel⟩, rfl, ⟨by show ([rowL (mkN 3 1 ([5, 6, 7])) (mkC 3 1 ([5, 6, 7])) 1] : List (List (List UInt8))).length ≤ 1048576; decide +kernel, by show (∀ l ∈ ([rowL (mkN 3 1 ([5, 6, 7])) (mkC 3 1 ([5, 6, 7])) 1] : List (List (List UInt8))), l.length ≤ 1048576); decide +kernel⟩, ⟨rfl, rfl, rfl, Nat.le_of_ble_eq_true rfl⟩, fun h5 => ?_, fun h5 => absurd h5 (show ¬ ((rowE (mkN 3 1 ([5, 6, 7])) (mkC 3 1 ([5, 6, 7])) 1) ≠ 0) by decide +kernel)⟩
  refine ⟨fun h6 => ?_, fun h6 => absurd h6 (show ¬ ((updE 1 (([[10], [20], [30]] : List (List UInt8)).getD 1 []) ([rowL (mkN 3 1 ([5, 6, 7])) (mkC 3 1 ([5, 6, 7])) 1] : List (List (List UInt8)))) ≠ 0) by decide +kernel)⟩
  refine ⟨fun h7 => absurd h7 (show ¬ ((updH 1 (([[10], [20], [30]] : List (List UInt8)).getD 1 []) ([rowL (mkN 3 1 ([5, 6, 7])) (mkC 3 1 ([5, 6, 7])) 1] : List (List (List UInt8)))) ≠ 1) by decide +kernel), fun h7 => ?_⟩
  refine ⟨⟨rfl, rfl⟩, by show ([rowL (mkN 3 1 ([5, 6, 7])) (mkC 3 1 ([5, 6, 7])) 0] : List (List (List UInt8))).length + ([rowL (mkN 3 1 ([5, 6, 7])) (mkC 3 1 ([5, 6, 7])) 1] : List (List (List UInt8))).length ≤ 1000000000; simp only [List.length_cons, List.length_nil]; first | omega | decide +kernel, rfl, ⟨rfl, rfl⟩, by show ([(updH 0 (([[10], [20], [30]] : List (List UInt8)).getD 0 []) ([rowL (mkN 3 1 ([5, 6, 7])) (mkC 3 1 ([5, 6, 7])) 0] : List (List (List UInt8))), updS 0 (([[10], [20], [30]] : List (List UInt8)).getD 0 []) ([rowL (mkN 3 1 ([5, 6, 7])) (mkC 3 1 ([5, 6, 7])) 0] : List (List (List UInt8))), ())] : List (Int × (List UInt8 × Unit))).length + ([(updH 1 (([[10], [20], [30]] : List (List UInt8)).getD 1 []) ([rowL (mkN 3 1 ([5, 6, 7])) (mkC 3 1 ([5, 6, 7])) 1] : List (List (List UInt8))), updS 1 (([[10], [20], [30]] : List (List UInt8)).getD 1 []) ([rowL (mkN 3 1 ([5, 6, 7])) (mkC 3 1 ([5, 6, 7])) 1] : List (List (List UInt8))), ())] : List (Int × (List UInt8 × Unit))).length ≤ 1000000000; simp only [List.length_cons, List.length_nil]; first | omega | decide +kernel, ⟨by show (-9223372036854775808 : Int) ≤ 2; first | omega | decide +kernel, by show 2 ≤ (9223372036854775807 : Int); first | omega | decide +kernel⟩, fun h8 => ?_, fun h8 => absurd (show (2 : Int) < 3 by decide +kernel) h8⟩
  refine ⟨rfl, rfl, ⟨by show (mkC 3 1 ([5, 6, 7])).length ≤ 1048576; decide +kernel, by show (∀ l ∈ (mkC 3 1 ([5, 6, 7])), l.length ≤ 1048576 ∧ ∀ x ∈ l, x.length ≤ 1048576); decide +kernel⟩, ⟨by show (0 : Int) ≤ 2; first | omega | decide +kernel, by show 2 < (([[10], [20], [30]] : List (List UInt8)).length : Int); first | omega | decide +kernel⟩, rfl, ⟨by show ([rowL (mkN 3 1 ([5, 6, 7])) (mkC 3 1 ([5, 6, 7])) 2] : List (List (List UInt8))).length ≤ 1048576; decide +kernel, by show (∀ l ∈ ([rowL (mkN 3 1 ([5, 6, 7])) (mkC 3 1 ([5, 6, 7])) 2] : List (List (List UInt8))), l.length ≤ 1048576); decide +kernel⟩, ⟨rfl, rfl, rfl, Nat.le_of_ble_eq_true rfl⟩, fun h9 => ?_, fun h9 => absurd h9 (show ¬ ((rowE (mkN 3 1 ([5, 6, 7])) (mkC 3 1 ([5, 6, 7])) 2) ≠ 0) by decide +kernel)⟩
  refine ⟨fun h10 => ?_, fun h10 => absurd h10 (show ¬ ((updE 2 (([[10], [20], [30]] : List (List UInt8)).getD 2 []) ([rowL (mkN 3 1 ([5, 6, 7])) (mkC 3 1 ([5, 6, 7])) 2] : List (List (List UInt8)))) ≠ 0) by decide +kernel)⟩
  refine ⟨fun h11 => absurd h11 (show ¬ ((updH 2 (([[10], [20], [30]] : List (List UInt8)).getD 2 []) ([rowL (mkN 3 1 ([5, 6, 7])) (mkC 3 1 ([5, 6, 7])) 2] : List (List (List UInt8)))) ≠ 2) by decide +kernel), fun h11 => ?_⟩
  refine ⟨⟨rfl, rfl⟩, by show (([rowL (mkN 3 1 ([5, 6, 7])) (mkC 3 1 ([5, 6, 7])) 0] : List (List (List UInt8))) ++ ([rowL (mkN 3 1 ([5, 6, 7])) (mkC 3 1 ([5, 6, 7])) 1] : List (List (List UInt8)))).length + ([rowL (mkN 3 1 ([5, 6, 7])) (mkC 3 1 ([5, 6, 7])) 2] : List (List (List UInt8))).length ≤ 1000000000; simp only [List.length_cons, List.length_nil]; first | omega | decide +kernel, rfl, ⟨rfl, rfl⟩, by show (([(updH 0 (([[10], [20], [30]] : List (List UInt8)).getD 0 []) ([rowL (mkN 3 1 ([5, 6, 7])) (mkC 3 1 ([5, 6, 7])) 0] : List (List (List UInt8))), updS 0 (([[10], [20], [30]] : List (List UInt8)).getD 0 []) ([rowL (mkN 3 1 ([5, 6, 7])) (mkC 3 1 ([5, 6, 7])) 0] : List (List (List UInt8))), ())] : List (Int × (List UInt8 × Unit))) ++ ([(updH 1 (([[10], [20], [30]] : List (List UInt8)).getD 1 []) ([rowL (mkN 3 1 ([5, 6, 7])) (mkC 3 1 ([5, 6, 7])) 1] : List (List (List UInt8))), updS 1 (([[10], [20], [30]] : List (List UInt8)).getD 1 []) ([rowL (mkN 3 1 ([5, 6, 7])) (mkC 3 1 ([5, 6, 7])) 1] : List (List (List UInt8))), ())] : List (Int × (List UInt8 × Unit)))).length + ([(updH 2 (([[10], [20], [30]] : List (List UInt8)).getD 2 []) ([rowL (mkN 3 1 ([5, 6, 7])) (mkC 3 1 ([5, 6, 7])) 2] : List (List (List UInt8))), updS 2 (([[10], [20], [30]] : List (List UInt8)).getD 2 []) ([rowL (mkN 3 1 ([5, 6, 7])) (mkC 3 1 ([5, 6, 7])) 2] : List (List (List UInt8))), ())] : List (Int × (List UInt8 × Unit))).length ≤ 1000000000; simp only [List.length_cons, List.length_nil]; first | omega | decide +kernel, ⟨by show (-9223372036854775808 : Int) ≤ 3; first | omega | decide +kernel, by show 3 ≤ (9223372036854775807 : Int); first | omega | decide +kernel⟩, fun h12 => absurd h12 (show ¬ ((3 : Int) < 3) by decide +kernel), fun h12 => ?_⟩
  refine ⟨fun h13 => ?_, fun h13 => absurd h13 (show ¬ ((mkE 3 1 ([5, 6, 7])) ≠ 0) by decide +kernel)⟩
  refine ⟨⟨by show (0 : Int) ≤ 0; first | omega | decide +kernel, by show 0 < (((([rowL (mkN 3 1 ([5, 6, 7])) (mkC 3 1 ([5, 6, 7])) 0] : List (List (List UInt8))) ++ ([rowL (mkN 3 1 ([5, 6, 7])) (mkC 3 1 ([5, 6, 7])) 1] : List (List (List UInt8)))) ++ ([rowL (mkN 3 1 ([5, 6, 7])) (mkC 3 1 ([5, 6, 7])) 2] : List (List (List UInt8)))).length : Int); first | omega | decide +kernel⟩, ⟨by show (((([rowL (mkN 3 1 ([5, 6, 7])) (mkC 3 1 ([5, 6, 7])) 0] : List (List (List UInt8))) ++ ([rowL (mkN 3 1 ([5, 6, 7])) (mkC 3 1 ([5, 6, 7])) 1] : List (List (List UInt8)))) ++ ([rowL (mkN 3 1 ([5, 6, 7])) (mkC 3 1 ([5, 6, 7])) 2] : List (List (List UInt8)))).getD 0 []).length ≤ 1048576; decide +kernel, by show ([[3], [1]] : List (List UInt8)).length ≤ 1048576; decide +kernel⟩, fun h14 => ?_, fun h14 => absurd h14 (show ¬ (¬ ((((([rowL (mkN 3 1 ([5, 6, 7])) (mkC 3 1 ([5, 6, 7])) 0] : List (List (List UInt8))) ++ ([rowL (mkN 3 1 ([5, 6, 7])) (mkC 3 1 ([5, 6, 7])) 1] : List (List (List UInt8)))) ++ ([rowL (mkN 3 1 ([5, 6, 7])) (mkC 3 1 ([5, 6, 7])) 2] : List (List (List UInt8)))).getD 0 []) = ([[3], [1]] : List (List UInt8)))) by decide +kernel)⟩
  refine ⟨⟨by show (0 : Int) ≤ 1; first | omega | decide +kernel, by show 1 < (((([rowL (mkN 3 1 ([5, 6, 7])) (mkC 3 1 ([5, 6, 7])) 0] : List (List (List UInt8))) ++ ([rowL (mkN 3 1 ([5, 6, 7])) (mkC 3 1 ([5, 6, 7])) 1] : List (List (List UInt8)))) ++ ([rowL (mkN 3 1 ([5, 6, 7])) (mkC 3 1 ([5, 6, 7])) 2] : List (List (List UInt8)))).length : Int); first | omega | decide +kernel⟩, ⟨by show (((([rowL (mkN 3 1 ([5, 6, 7])) (mkC 3 1 ([5, 6, 7])) 0] : List (List (List UInt8))) ++ ([rowL (mkN 3 1 ([5, 6, 7])) (mkC 3 1 ([5, 6, 7])) 1] : List (List (List UInt8)))) ++ ([rowL (mkN 3 1 ([5, 6, 7])) (mkC 3 1 ([5, 6, 7])) 2] : List (List (List UInt8)))).getD 1 []).length ≤ 1048576; decide +kernel, by show ([[9], [8]] : List (List UInt8)).length ≤ 1048576; decide +kernel⟩, fun h15 => ?_, fun h15 => absurd h15 (show ¬ (¬ ((((([rowL (mkN 3 1 ([5, 6, 7])) (mkC 3 1 ([5, 6, 7])) 0] : List (List (List UInt8))) ++ ([rowL (mkN 3 1 ([5, 6, 7])) (mkC 3 1 ([5, 6, 7])) 1] : List (List (List UInt8)))) ++ ([rowL (mkN 3 1 ([5, 6, 7])) (mkC 3 1 ([5, 6, 7])) 2] : List (List (List UInt8)))).getD 1 []) = ([[9], [8]] : List (List UInt8)))) by decide +kernel)⟩
  refine ⟨⟨by show (0 : Int) ≤ 2; first | omega | decide +kernel, by show 2 < (((([rowL (mkN 3 1 ([5, 6, 7])) (mkC 3 1 ([5, 6, 7])) 0] : List (List (List UInt8))) ++ ([rowL (mkN 3 1 ([5, 6, 7])) (mkC 3 1 ([5, 6, 7])) 1] : List (List (List UInt8)))) ++ ([rowL (mkN 3 1 ([5, 6, 7])) (mkC 3 1 ([5, 6, 7])) 2] : List (List (List UInt8)))).length : Int); first | omega | decide +kernel⟩, ⟨by show (((([rowL (mkN 3 1 ([5, 6, 7])) (mkC 3 1 ([5, 6, 7])) 0] : List (List (List UInt8))) ++ ([rowL (mkN 3 1 ([5, 6, 7])) (mkC 3 1 ([5, 6, 7])) 1] : List (List (List UInt8)))) ++ ([rowL (mkN 3 1 ([5, 6, 7])) (mkC 3 1 ([5, 6, 7])) 2] : List (List (List UInt8)))).getD 2 []).length ≤ 1048576; decide +kernel, by show ([[15], [15]] : List (List UInt8)).length ≤ 1048576; decide +kernel⟩, fun h16 => absurd h16 (show ¬ (¬ ((((([rowL (mkN 3 1 ([5, 6, 7])) (mkC 3 1 ([5, 6, 7])) 0] : List (List (List UInt8))) ++ ([rowL (mkN 3 1 ([5, 6, 7])) (mkC 3 1 ([5, 6, 7])) 1] : List (List (List UInt8)))) ++ ([rowL (mkN 3 1 ([5, 6, 7])) (mkC 3 1 ([5, 6, 7])) 2] : List (List (List UInt8)))).getD 2 []) = ([[15], [15]] : List (List UInt8)))) by decide +kernel), fun h16 => ?_⟩
  refine ⟨⟨by show (0 : Int) ≤ 0; first | omega | decide +kernel, by show 0 < (((([rowL (mkN 3 1 ([5, 6, 7])) (mkC 3 1 ([5, 6, 7])) 0] : List (List (List UInt8))) ++ ([rowL (mkN 3 1 ([5, 6, 7])) (mkC 3 1 ([5, 6, 7])) 1] : List (List (List UInt8)))) ++ ([rowL (mkN 3 1 ([5, 6, 7])) (mkC 3 1 ([5, 6, 7])) 2] : List (List (List UInt8)))).length : Int); first | omega | decide +kernel⟩, rfl, by show (((([rowL (mkN 3 1 ([5, 6, 7])) (mkC 3 1 ([5, 6, 7])) 0] : List (List (List UInt8))) ++ ([rowL (mkN 3 1 ([5, 6, 7])) (mkC 3 1 ([5, 6, 7])) 1] : List (List (List UInt8)))) ++ ([rowL (mkN 3 1 ([5, 6, 7])) (mkC 3 1 ([5, 6, 7])) 2] : List (List (List UInt8)))).getD 0 []).length ≤ 1048576; decide +kernel, ⟨by show (0 : Int) ≤ 1; first | omega | decide +kernel, by show 1 < (((([rowL (mkN 3 1 ([5, 6, 7])) (mkC 3 1 ([5, 6, 7])) 0] : List (List (List UInt8))) ++ ([rowL (mkN 3 1 ([5, 6, 7])) (mkC 3 1 ([5, 6, 7])) 1] : List (List (List UInt8)))) ++ ([rowL (mkN 3 1 ([5, 6, 7])) (mkC 3 1 ([5, 6, 7])) 2] : List (List (List UInt8)))).length : Int); first | omega | decide +kernel⟩, rfl, by show (((([rowL (mkN 3 1 ([5, 6, 7])) (mkC 3 1 ([5, 6, 7])) 0] : List (List (List UInt8))) ++ ([rowL (mkN 3 1 ([5, 6, 7])) (mkC 3 1 ([5, 6, 7])) 1] : List (List (List UInt8)))) ++ ([rowL (mkN 3 1 ([5, 6, 7])) (mkC 3 1 ([5, 6, 7])) 2] : List (List (List UInt8)))).getD 1 []).length ≤ 1048576; decide +kernel, by kernel_rfl, ⟨by show (0 : Int) ≤ 1; first | omega | decide +kernel, by show 1 < (((([rowL (mkN 3 1 ([5, 6, 7])) (mkC 3 1 ([5, 6, 7])) 0] : List (List (List UInt8))) ++ ([rowL (mkN 3 1 ([5, 6, 7])) (mkC 3 1 ([5, 6, 7])) 1] : List (List (List UInt8)))) ++ ([rowL (mkN 3 1 ([5, 6, 7])) (mkC 3 1 ([5, 6, 7])) 2] : List (List (List UInt8)))).length : Int); first | omega | decide +kernel⟩, ⟨by show (0 : Int) ≤ 2; first | omega | decide +kernel, by show 2 < (((([rowL (mkN 3 1 ([5, 6, 7])) (mkC 3 1 ([5, 6, 7])) 0] : List (List (List UInt8))) ++ ([rowL (mkN 3 1 ([5, 6, 7])) (mkC 3 1 ([5, 6, 7])) 1] : List (List (List UInt8)))) ++ ([rowL (mkN 3 1 ([5, 6, 7])) (mkC 3 1 ([5, 6, 7])) 2] : List (List (List UInt8)))).length : Int); first | omega | decide +kernel⟩, rfl, rfl, ⟨by show (((([rowL (mkN 3 1 ([5, 6, 7])) (mkC 3 1 ([5, 6, 7])) 0] : List (List (List UInt8))) ++ ([rowL (mkN 3 1 ([5, 6, 7])) (mkC 3 1 ([5, 6, 7])) 1] : List (List (List UInt8)))) ++ ([rowL (mkN 3 1 ([5, 6, 7])) (mkC 3 1 ([5, 6, 7])) 2] : List (List (List UInt8)))).getD 1 []).length ≤ 1048576; decide +kernel, by show (((([rowL (mkN 3 1 ([5, 6, 7])) (mkC 3 1 ([5, 6, 7])) 0] : List (List (List UInt8))) ++ ([rowL (mkN 3 1 ([5, 6, 7])) (mkC 3 1 ([5, 6, 7])) 1] : List (List (List UInt8)))) ++ ([rowL (mkN 3 1 ([5, 6, 7])) (mkC 3 1 ([5, 6, 7])) 2] : List (List (List UInt8)))).getD 2 []).length ≤ 1048576; decide +kernel⟩, ⟨by show ((([rowL (mkN 3 1 ([5, 6, 7])) (mkC 3 1 ([5, 6, 7])) 0] : List (List (List UInt8))) ++ ([rowL (mkN 3 1 ([5, 6, 7])) (mkC 3 1 ([5, 6, 7])) 1] : List (List (List UInt8)))) ++ ([rowL (mkN 3 1 ([5, 6, 7])) (mkC 3 1 ([5, 6, 7])) 2] : List (List (List UInt8)))).length ≤ 1048576; decide +kernel, by show (∀ l ∈ ((([rowL (mkN 3 1 ([5, 6, 7])) (mkC 3 1 ([5, 6, 7])) 0] : List (List (List UInt8))) ++ ([rowL (mkN 3 1 ([5, 6, 7])) (mkC 3 1 ([5, 6, 7])) 1] : List (List (List UInt8)))) ++ ([rowL (mkN 3 1 ([5, 6, 7])) (mkC 3 1 ([5, 6, 7])) 2] : List (List (List UInt8)))), l.length ≤ 1048576 ∧ ∀ x ∈ l, x.length ≤ 1048576); decide +kernel⟩, by kernel_rfl, ⟨by show (0 : Int) ≤ 0; first | omega | decide +kernel, by show 0 < (((([rowL (mkN 3 1 ([5, 6, 7])) (mkC 3 1 ([5, 6, 7])) 0] : List (List (List UInt8))) ++ ([rowL (mkN 3 1 ([5, 6, 7])) (mkC 3 1 ([5, 6, 7])) 1] : List (List (List UInt8)))) ++ ([rowL (mkN 3 1 ([5, 6, 7])) (mkC 3 1 ([5, 6, 7])) 2] : List (List (List UInt8)))).length : Int); first | omega | decide +kernel⟩, ⟨by show (0 : Int) ≤ 2; first | omega | decide +kernel, by show 2 < (((([rowL (mkN 3 1 ([5, 6, 7])) (mkC 3 1 ([5, 6, 7])) 0] : List (List (List UInt8))) ++ ([rowL (mkN 3 1 ([5, 6, 7])) (mkC 3 1 ([5, 6, 7])) 1] : List (List (List UInt8)))) ++ ([rowL (mkN 3 1 ([5, 6, 7])) (mkC 3 1 ([5, 6, 7])) 2] : List (List (List UInt8)))).length : Int); first | omega | decide +kernel⟩, ⟨by show ([(((([rowL (mkN 3 1 ([5, 6, 7])) (mkC 3 1 ([5, 6, 7])) 0] : List (List (List UInt8))) ++ ([rowL (mkN 3 1 ([5, 6, 7])) (mkC 3 1 ([5, 6, 7])) 1] : List (List (List UInt8)))) ++ ([rowL (mkN 3 1 ([5, 6, 7])) (mkC 3 1 ([5, 6, 7])) 2] : List (List (List UInt8)))).getD 0 []), ([[9], [9]] : List (List UInt8)), (((([rowL (mkN 3 1 ([5, 6, 7])) (mkC 3 1 ([5, 6, 7])) 0] : List (List (List UInt8))) ++ ([rowL (mkN 3 1 ([5, 6, 7])) (mkC 3 1 ([5, 6, 7])) 1] : List (List (List UInt8)))) ++ ([rowL (mkN 3 1 ([5, 6, 7])) (mkC 3 1 ([5, 6, 7])) 2] : List (List (List UInt8)))).getD 2 [])]).length ≤ 1048576; decide +kernel, by show (∀ l ∈ ([(((([rowL (mkN 3 1 ([5, 6, 7])) (mkC 3 1 ([5, 6, 7])) 0] : List (List (List UInt8))) ++ ([rowL (mkN 3 1 ([5, 6, 7])) (mkC 3 1 ([5, 6, 7])) 1] : List (List (List UInt8)))) ++ ([rowL (mkN 3 1 ([5, 6, 7])) (mkC 3 1 ([5, 6, 7])) 2] : List (List (List UInt8)))).getD 0 []), ([[9], [9]] : List (List UInt8)), (((([rowL (mkN 3 1 ([5, 6, 7])) (mkC 3 1 ([5, 6, 7])) 0] : List (List (List UInt8))) ++ ([rowL (mkN 3 1 ([5, 6, 7])) (mkC 3 1 ([5, 6, 7])) 1] : List (List (List UInt8)))) ++ ([rowL (mkN 3 1 ([5, 6, 7])) (mkC 3 1 ([5, 6, 7])) 2] : List (List (List UInt8)))).getD 2 [])]), l.length ≤ 1048576 ∧ ∀ x ∈ l, x.length ≤ 1048576); decide +kernel⟩, ⟨by first | omega | decide +kernel, by first | omega | decide +kernel⟩, rfl, ⟨by show ((((([rowL (mkN 3 1 ([5, 6, 7])) (mkC 3 1 ([5, 6, 7])) 0] : List (List (List UInt8))) ++ ([rowL (mkN 3 1 ([5, 6, 7])) (mkC 3 1 ([5, 6, 7])) 1] : List (List (List UInt8)))) ++ ([rowL (mkN 3 1 ([5, 6, 7])) (mkC 3 1 ([5, 6, 7])) 2] : List (List (List UInt8)))).drop 0).take (2 - 0)).length ≤ 1048576; decide +kernel, by show (∀ l ∈ ((((([rowL (mkN 3 1 ([5, 6, 7])) (mkC 3 1 ([5, 6, 7])) 0] : List (List (List UInt8))) ++ ([rowL (mkN 3 1 ([5, 6, 7])) (mkC 3 1 ([5, 6, 7])) 1] : List (List (List UInt8)))) ++ ([rowL (mkN 3 1 ([5, 6, 7])) (mkC 3 1 ([5, 6, 7])) 2] : List (List (List UInt8)))).drop 0).take (2 - 0)), l.length ≤ 1048576 ∧ ∀ x ∈ l, x.length ≤ 1048576); decide +kernel⟩, rfl, ⟨by show ([(((([rowL (mkN 3 1 ([5, 6, 7])) (mkC 3 1 ([5, 6, 7])) 0] : List (List (List UInt8))) ++ ([rowL (mkN 3 1 ([5, 6, 7])) (mkC 3 1 ([5, 6, 7])) 1] : List (List (List UInt8)))) ++ ([rowL (mkN 3 1 ([5, 6, 7])) (mkC 3 1 ([5, 6, 7])) 2] : List (List (List UInt8)))).getD 0 []), ([[9], [9]] : List (List UInt8)), (((([rowL (mkN 3 1 ([5, 6, 7])) (mkC 3 1 ([5, 6, 7])) 0] : List (List (List UInt8))) ++ ([rowL (mkN 3 1 ([5, 6, 7])) (mkC 3 1 ([5, 6, 7])) 1] : List (List (List UInt8)))) ++ ([rowL (mkN 3 1 ([5, 6, 7])) (mkC 3 1 ([5, 6, 7])) 2] : List (List (List UInt8)))).getD 2 [])]).length ≤ 1048576; decide +kernel, by show (∀ l ∈ ([(((([rowL (mkN 3 1 ([5, 6, 7])) (mkC 3 1 ([5, 6, 7])) 0] : List (List (List UInt8))) ++ ([rowL (mkN 3 1 ([5, 6, 7])) (mkC 3 1 ([5, 6, 7])) 1] : List (List (List UInt8)))) ++ ([rowL (mkN 3 1 ([5, 6, 7])) (mkC 3 1 ([5, 6, 7])) 2] : List (List (List UInt8)))).getD 0 []), ([[9], [9]] : List (List UInt8)), (((([rowL (mkN 3 1 ([5, 6, 7])) (mkC 3 1 ([5, 6, 7])) 0] : List (List (List UInt8))) ++ ([rowL (mkN 3 1 ([5, 6, 7])) (mkC 3 1 ([5, 6, 7])) 1] : List (List (List UInt8)))) ++ ([rowL (mkN 3 1 ([5, 6, 7])) (mkC 3 1 ([5, 6, 7])) 2] : List (List (List UInt8)))).getD 2 [])]), l.length ≤ 1048576 ∧ ∀ x ∈ l, x.length ≤ 1048576); decide +kernel⟩, ⟨by first | omega | decide +kernel, by first | omega | decide +kernel⟩, rfl, ⟨by show ((((([rowL (mkN 3 1 ([5, 6, 7])) (mkC 3 1 ([5, 6, 7])) 0] : List (List (List UInt8))) ++ ([rowL (mkN 3 1 ([5, 6, 7])) (mkC 3 1 ([5, 6, 7])) 1] : List (List (List UInt8)))) ++ ([rowL (mkN 3 1 ([5, 6, 7])) (mkC 3 1 ([5, 6, 7])) 2] : List (List (List UInt8)))).drop 0).take (1 - 0)).length ≤ 1048576; decide +kernel, by show (∀ l ∈ ((((([rowL (mkN 3 1 ([5, 6, 7])) (mkC 3 1 ([5, 6, 7])) 0] : List (List (List UInt8))) ++ ([rowL (mkN 3 1 ([5, 6, 7])) (mkC 3 1 ([5, 6, 7])) 1] : List (List (List UInt8)))) ++ ([rowL (mkN 3 1 ([5, 6, 7])) (mkC 3 1 ([5, 6, 7])) 2] : List (List (List UInt8)))).drop 0).take (1 - 0)), l.length ≤ 1048576 ∧ ∀ x ∈ l, x.length ≤ 1048576); decide +kernel⟩, fun h17 => ?_, fun h17 => absurd h17 (show ¬ ((valE (((([rowL (mkN 3 1 ([5, 6, 7])) (mkC 3 1 ([5, 6, 7])) 0] : List (List (List UInt8))) ++ ([rowL (mkN 3 1 ([5, 6, 7])) (mkC 3 1 ([5, 6, 7])) 1] : List (List (List UInt8)))) ++ ([rowL (mkN 3 1 ([5, 6, 7])) (mkC 3 1 ([5, 6, 7])) 2] : List (List (List UInt8)))).getD 0 []) 1) ≠ 0) by decide +kernel)⟩
  refine ⟨fun h18 => ?_, fun h18 => absurd h18 (show ¬ ((valE (((([rowL (mkN 3 1 ([5, 6, 7])) (mkC 3 1 ([5, 6, 7])) 0] : List (List (List UInt8))) ++ ([rowL (mkN 3 1 ([5, 6, 7])) (mkC 3 1 ([5, 6, 7])) 1] : List (List (List UInt8)))) ++ ([rowL (mkN 3 1 ([5, 6, 7])) (mkC 3 1 ([5, 6, 7])) 2] : List (List (List UInt8)))).getD 1 []) 0) ≠ 0) by decide +kernel)⟩
  refine ⟨fun h19 => ?_, fun h19 => absurd h19 (show ¬ ((agE (((([rowL (mkN 3 1 ([5, 6, 7])) (mkC 3 1 ([5, 6, 7])) 0] : List (List (List UInt8))) ++ ([rowL (mkN 3 1 ([5, 6, 7])) (mkC 3 1 ([5, 6, 7])) 1] : List (List (List UInt8)))) ++ ([rowL (mkN 3 1 ([5, 6, 7])) (mkC 3 1 ([5, 6, 7])) 2] : List (List (List UInt8)))).getD 1 []) 1 (((([rowL (mkN 3 1 ([5, 6, 7])) (mkC 3 1 ([5, 6, 7])) 0] : List (List (List UInt8))) ++ ([rowL (mkN 3 1 ([5, 6, 7])) (mkC 3 1 ([5, 6, 7])) 1] : List (List (List UInt8)))) ++ ([rowL (mkN 3 1 ([5, 6, 7])) (mkC 3 1 ([5, 6, 7])) 2] : List (List (List UInt8)))).getD 2 []) 2) ≠ 0) by decide +kernel)⟩
  refine ⟨fun h20 => ?_, fun h20 => absurd h20 (show ¬ ((cmpE ((([rowL (mkN 3 1 ([5, 6, 7])) (mkC 3 1 ([5, 6, 7])) 0] : List (List (List UInt8))) ++ ([rowL (mkN 3 1 ([5, 6, 7])) (mkC 3 1 ([5, 6, 7])) 1] : List (List (List UInt8)))) ++ ([rowL (mkN 3 1 ([5, 6, 7])) (mkC 3 1 ([5, 6, 7])) 2] : List (List (List UInt8))))) ≠ 0) by decide +kernel)⟩
  refine ⟨fun h21 => ?_, fun h21 => absurd h21 (show ¬ ((cmpE ([(((([rowL (mkN 3 1 ([5, 6, 7])) (mkC 3 1 ([5, 6, 7])) 0] : List (List (List UInt8))) ++ ([rowL (mkN 3 1 ([5, 6, 7])) (mkC 3 1 ([5, 6, 7])) 1] : List (List (List UInt8)))) ++ ([rowL (mkN 3 1 ([5, 6, 7])) (mkC 3 1 ([5, 6, 7])) 2] : List (List (List UInt8)))).getD 0 []), ([[9], [9]] : List (List UInt8)), (((([rowL (mkN 3 1 ([5, 6, 7])) (mkC 3 1 ([5, 6, 7])) 0] : List (List (List UInt8))) ++ ([rowL (mkN 3 1 ([5, 6, 7])) (mkC 3 1 ([5, 6, 7])) 1] : List (List (List UInt8)))) ++ ([rowL (mkN 3 1 ([5, 6, 7])) (mkC 3 1 ([5, 6, 7])) 2] : List (List (List UInt8)))).getD 2 [])])) ≠ 0) by decide +kernel)⟩
  refine ⟨fun h22 => ?_, fun h22 => absurd h22 (show ¬ ((rflE ((((([rowL (mkN 3 1 ([5, 6, 7])) (mkC 3 1 ([5, 6, 7])) 0] : List (List (List UInt8))) ++ ([rowL (mkN 3 1 ([5, 6, 7])) (mkC 3 1 ([5, 6, 7])) 1] : List (List (List UInt8)))) ++ ([rowL (mkN 3 1 ([5, 6, 7])) (mkC 3 1 ([5, 6, 7])) 2] : List (List (List UInt8)))).drop 0).take (2 - 0)) 2) ≠ 0) by decide +kernel)⟩
  refine ⟨fun h23 => ?_, fun h23 => absurd h23 (show ¬ ((rflE ([(((([rowL (mkN 3 1 ([5, 6, 7])) (mkC 3 1 ([5, 6, 7])) 0] : List (List (List UInt8))) ++ ([rowL (mkN 3 1 ([5, 6, 7])) (mkC 3 1 ([5, 6, 7])) 1] : List (List (List UInt8)))) ++ ([rowL (mkN 3 1 ([5, 6, 7])) (mkC 3 1 ([5, 6, 7])) 2] : List (List (List UInt8)))).getD 0 []), ([[9], [9]] : List (List UInt8)), (((([rowL (mkN 3 1 ([5, 6, 7])) (mkC 3 1 ([5, 6, 7])) 0] : List (List (List UInt8))) ++ ([rowL (mkN 3 1 ([5, 6, 7])) (mkC 3 1 ([5, 6, 7])) 1] : List (List (List UInt8)))) ++ ([rowL (mkN 3 1 ([5, 6, 7])) (mkC 3 1 ([5, 6, 7])) 2] : List (List (List UInt8)))).getD 2 [])]) 2) ≠ 4) by decide +kernel)⟩
  refine ⟨fun h24 => absurd h24 (show ¬ ((rflE ((((([rowL (mkN 3 1 ([5, 6, 7])) (mkC 3 1 ([5, 6, 7])) 0] : List (List (List UInt8))) ++ ([rowL (mkN 3 1 ([5, 6, 7])) (mkC 3 1 ([5, 6, 7])) 1] : List (List (List UInt8)))) ++ ([rowL (mkN 3 1 ([5, 6, 7])) (mkC 3 1 ([5, 6, 7])) 2] : List (List (List UInt8)))).drop 0).take (1 - 0)) 2) ≠ 17) by decide +kernel), fun h24 => ?_⟩
  refine ⟨fun h25 => ?_, fun h25 => absurd (show (valS (((([rowL (mkN 3 1 ([5, 6, 7])) (mkC 3 1 ([5, 6, 7])) 0] : List (List (List UInt8))) ++ ([rowL (mkN 3 1 ([5, 6, 7])) (mkC 3 1 ([5, 6, 7])) 1] : List (List (List UInt8)))) ++ ([rowL (mkN 3 1 ([5, 6, 7])) (mkC 3 1 ([5, 6, 7])) 2] : List (List (List UInt8)))).getD 0 []) 1) = ([1]) by decide +kernel) h25⟩
  refine ⟨fun h26 => ?_, fun h26 => absurd (show (valS (((([rowL (mkN 3 1 ([5, 6, 7])) (mkC 3 1 ([5, 6, 7])) 0] : List (List (List UInt8))) ++ ([rowL (mkN 3 1 ([5, 6, 7])) (mkC 3 1 ([5, 6, 7])) 1] : List (List (List UInt8)))) ++ ([rowL (mkN 3 1 ([5, 6, 7])) (mkC 3 1 ([5, 6, 7])) 2] : List (List (List UInt8)))).getD 1 []) 0) = ([1]) by decide +kernel) h26⟩
  refine ⟨fun h27 => ?_, fun h27 => absurd (show agQ (((([rowL (mkN 3 1 ([5, 6, 7])) (mkC 3 1 ([5, 6, 7])) 0] : List (List (List UInt8))) ++ ([rowL (mkN 3 1 ([5, 6, 7])) (mkC 3 1 ([5, 6, 7])) 1] : List (List (List UInt8)))) ++ ([rowL (mkN 3 1 ([5, 6, 7])) (mkC 3 1 ([5, 6, 7])) 2] : List (List (List UInt8)))).getD 1 []) 1 (((([rowL (mkN 3 1 ([5, 6, 7])) (mkC 3 1 ([5, 6, 7])) 0] : List (List (List UInt8))) ++ ([rowL (mkN 3 1 ([5, 6, 7])) (mkC 3 1 ([5, 6, 7])) 1] : List (List (List UInt8)))) ++ ([rowL (mkN 3 1 ([5, 6, 7])) (mkC 3 1 ([5, 6, 7])) 2] : List (List (List UInt8)))).getD 2 []) 2 by decide +kernel) h27⟩
  refine ⟨fun h28 => ?_, fun h28 => absurd (show (((cmpL ((([rowL (mkN 3 1 ([5, 6, 7])) (mkC 3 1 ([5, 6, 7])) 0] : List (List (List UInt8))) ++ ([rowL (mkN 3 1 ([5, 6, 7])) (mkC 3 1 ([5, 6, 7])) 1] : List (List (List UInt8)))) ++ ([rowL (mkN 3 1 ([5, 6, 7])) (mkC 3 1 ([5, 6, 7])) 2] : List (List (List UInt8))))).length : Nat) : Int) = 0 by decide +kernel) h28⟩
  refine ⟨rfl, rfl, rfl, rfl, ⟨by show (cmpL ([(((([rowL (mkN 3 1 ([5, 6, 7])) (mkC 3 1 ([5, 6, 7])) 0] : List (List (List UInt8))) ++ ([rowL (mkN 3 1 ([5, 6, 7])) (mkC 3 1 ([5, 6, 7])) 1] : List (List (List UInt8)))) ++ ([rowL (mkN 3 1 ([5, 6, 7])) (mkC 3 1 ([5, 6, 7])) 2] : List (List (List UInt8)))).getD 0 []), ([[9], [9]] : List (List UInt8)), (((([rowL (mkN 3 1 ([5, 6, 7])) (mkC 3 1 ([5, 6, 7])) 0] : List (List (List UInt8))) ++ ([rowL (mkN 3 1 ([5, 6, 7])) (mkC 3 1 ([5, 6, 7])) 1] : List (List (List UInt8)))) ++ ([rowL (mkN 3 1 ([5, 6, 7])) (mkC 3 1 ([5, 6, 7])) 2] : List (List (List UInt8)))).getD 2 [])])).length ≤ 1048576; decide +kernel, by show ([([0, 1] : List Int), ([1, 2] : List Int)] : List (List Int)).length ≤ 1048576; decide +kernel⟩, fun h29 => ?_, fun h29 => absurd (show (cmpL ([(((([rowL (mkN 3 1 ([5, 6, 7])) (mkC 3 1 ([5, 6, 7])) 0] : List (List (List UInt8))) ++ ([rowL (mkN 3 1 ([5, 6, 7])) (mkC 3 1 ([5, 6, 7])) 1] : List (List (List UInt8)))) ++ ([rowL (mkN 3 1 ([5, 6, 7])) (mkC 3 1 ([5, 6, 7])) 2] : List (List (List UInt8)))).getD 0 []), ([[9], [9]] : List (List UInt8)), (((([rowL (mkN 3 1 ([5, 6, 7])) (mkC 3 1 ([5, 6, 7])) 0] : List (List (List UInt8))) ++ ([rowL (mkN 3 1 ([5, 6, 7])) (mkC 3 1 ([5, 6, 7])) 1] : List (List (List UInt8)))) ++ ([rowL (mkN 3 1 ([5, 6, 7])) (mkC 3 1 ([5, 6, 7])) 2] : List (List (List UInt8)))).getD 2 [])])) = ([([0, 1] : List Int), ([1, 2] : List Int)] : List (List Int)) by decide +kernel) h29⟩
  refine ⟨⟨by show (0 : Int) ≤ 2; first | omega | decide +kernel, by show 2 < (((([rowL (mkN 3 1 ([5, 6, 7])) (mkC 3 1 ([5, 6, 7])) 0] : List (List (List UInt8))) ++ ([rowL (mkN 3 1 ([5, 6, 7])) (mkC 3 1 ([5, 6, 7])) 1] : List (List (List UInt8)))) ++ ([rowL (mkN 3 1 ([5, 6, 7])) (mkC 3 1 ([5, 6, 7])) 2] : List (List (List UInt8)))).length : Int); first | omega | decide +kernel⟩, ⟨by show (rflL ((((([rowL (mkN 3 1 ([5, 6, 7])) (mkC 3 1 ([5, 6, 7])) 0] : List (List (List UInt8))) ++ ([rowL (mkN 3 1 ([5, 6, 7])) (mkC 3 1 ([5, 6, 7])) 1] : List (List (List UInt8)))) ++ ([rowL (mkN 3 1 ([5, 6, 7])) (mkC 3 1 ([5, 6, 7])) 2] : List (List (List UInt8)))).drop 0).take (2 - 0)) 2).length ≤ 1048576; decide +kernel, by show (((([rowL (mkN 3 1 ([5, 6, 7])) (mkC 3 1 ([5, 6, 7])) 0] : List (List (List UInt8))) ++ ([rowL (mkN 3 1 ([5, 6, 7])) (mkC 3 1 ([5, 6, 7])) 1] : List (List (List UInt8)))) ++ ([rowL (mkN 3 1 ([5, 6, 7])) (mkC 3 1 ([5, 6, 7])) 2] : List (List (List UInt8)))).getD 2 []).length ≤ 1048576; decide +kernel⟩, fun h30 => ?_, fun h30 => absurd (show (rflL ((((([rowL (mkN 3 1 ([5, 6, 7])) (mkC 3 1 ([5, 6, 7])) 0] : List (List (List UInt8))) ++ ([rowL (mkN 3 1 ([5, 6, 7])) (mkC 3 1 ([5, 6, 7])) 1] : List (List (List UInt8)))) ++ ([rowL (mkN 3 1 ([5, 6, 7])) (mkC 3 1 ([5, 6, 7])) 2] : List (List (List UInt8)))).drop 0).take (2 - 0)) 2) = (((([rowL (mkN 3 1 ([5, 6, 7])) (mkC 3 1 ([5, 6, 7])) 0] : List (List (List UInt8))) ++ ([rowL (mkN 3 1 ([5, 6, 7])) (mkC 3 1 ([5, 6, 7])) 1] : List (List (List UInt8)))) ++ ([rowL (mkN 3 1 ([5, 6, 7])) (mkC 3 1 ([5, 6, 7])) 2] : List (List (List UInt8)))).getD 2 []) by decide +kernel) h30⟩
  refine ⟨⟨by show (0 : Int) ≤ 0; first | omega | decide +kernel, by show 0 < (((([(updH 0 (([[10], [20], [30]] : List (List UInt8)).getD 0 []) ([rowL (mkN 3 1 ([5, 6, 7])) (mkC 3 1 ([5, 6, 7])) 0] : List (List (List UInt8))), updS 0 (([[10], [20], [30]] : List (List UInt8)).getD 0 []) ([rowL (mkN 3 1 ([5, 6, 7])) (mkC 3 1 ([5, 6, 7])) 0] : List (List (List UInt8))), ())] : List (Int × (List UInt8 × Unit))) ++ ([(updH 1 (([[10], [20], [30]] : List (List UInt8)).getD 1 []) ([rowL (mkN 3 1 ([5, 6, 7])) (mkC 3 1 ([5, 6, 7])) 1] : List (List (List UInt8))), updS 1 (([[10], [20], [30]] : List (List UInt8)).getD 1 []) ([rowL (mkN 3 1 ([5, 6, 7])) (mkC 3 1 ([5, 6, 7])) 1] : List (List (List UInt8))), ())] : List (Int × (List UInt8 × Unit)))) ++ ([(updH 2 (([[10], [20], [30]] : List (List UInt8)).getD 2 []) ([rowL (mkN 3 1 ([5, 6, 7])) (mkC 3 1 ([5, 6, 7])) 2] : List (List (List UInt8))), updS 2 (([[10], [20], [30]] : List (List UInt8)).getD 2 []) ([rowL (mkN 3 1 ([5, 6, 7])) (mkC 3 1 ([5, 6, 7])) 2] : List (List (List UInt8))), ())] : List (Int × (List UInt8 × Unit)))).length : Int); first | omega | decide +kernel⟩, fun h31 => ?_, fun h31 => absurd (show (((((([(updH 0 (([[10], [20], [30]] : List (List UInt8)).getD 0 []) ([rowL (mkN 3 1 ([5, 6, 7])) (mkC 3 1 ([5, 6, 7])) 0] : List (List (List UInt8))), updS 0 (([[10], [20], [30]] : List (List UInt8)).getD 0 []) ([rowL (mkN 3 1 ([5, 6, 7])) (mkC 3 1 ([5, 6, 7])) 0] : List (List (List UInt8))), ())] : List (Int × (List UInt8 × Unit))) ++ ([(updH 1 (([[10], [20], [30]] : List (List UInt8)).getD 1 []) ([rowL (mkN 3 1 ([5, 6, 7])) (mkC 3 1 ([5, 6, 7])) 1] : List (List (List UInt8))), updS 1 (([[10], [20], [30]] : List (List UInt8)).getD 1 []) ([rowL (mkN 3 1 ([5, 6, 7])) (mkC 3 1 ([5, 6, 7])) 1] : List (List (List UInt8))), ())] : List (Int × (List UInt8 × Unit)))) ++ ([(updH 2 (([[10], [20], [30]] : List (List UInt8)).getD 2 []) ([rowL (mkN 3 1 ([5, 6, 7])) (mkC 3 1 ([5, 6, 7])) 2] : List (List (List UInt8))), updS 2 (([[10], [20], [30]] : List (List UInt8)).getD 2 []) ([rowL (mkN 3 1 ([5, 6, 7])) (mkC 3 1 ([5, 6, 7])) 2] : List (List (List UInt8))), ())] : List (Int × (List UInt8 × Unit)))).getD 0 (0, ([], ()))).2).1) = ([9]) by decide +kernel) h31⟩
  refine ⟨⟨by show (0 : Int) ≤ 1; first | omega | decide +kernel, by show 1 < (((([(updH 0 (([[10], [20], [30]] : List (List UInt8)).getD 0 []) ([rowL (mkN 3 1 ([5, 6, 7])) (mkC 3 1 ([5, 6, 7])) 0] : List (List (List UInt8))), updS 0 (([[10], [20], [30]] : List (List UInt8)).getD 0 []) ([rowL (mkN 3 1 ([5, 6, 7])) (mkC 3 1 ([5, 6, 7])) 0] : List (List (List UInt8))), ())] : List (Int × (List UInt8 × Unit))) ++ ([(updH 1 (([[10], [20], [30]] : List (List UInt8)).getD 1 []) ([rowL (mkN 3 1 ([5, 6, 7])) (mkC 3 1 ([5, 6, 7])) 1] : List (List (List UInt8))), updS 1 (([[10], [20], [30]] : List (List UInt8)).getD 1 []) ([rowL (mkN 3 1 ([5, 6, 7])) (mkC 3 1 ([5, 6, 7])) 1] : List (List (List UInt8))), ())] : List (Int × (List UInt8 × Unit)))) ++ ([(updH 2 (([[10], [20], [30]] : List (List UInt8)).getD 2 []) ([rowL (mkN 3 1 ([5, 6, 7])) (mkC 3 1 ([5, 6, 7])) 2] : List (List (List UInt8))), updS 2 (([[10], [20], [30]] : List (List UInt8)).getD 2 []) ([rowL (mkN 3 1 ([5, 6, 7])) (mkC 3 1 ([5, 6, 7])) 2] : List (List (List UInt8))), ())] : List (Int × (List UInt8 × Unit)))).length : Int); first | omega | decide +kernel⟩, fun h32 => ?_, fun h32 => absurd (show (((((([(updH 0 (([[10], [20], [30]] : List (List UInt8)).getD 0 []) ([rowL (mkN 3 1 ([5, 6, 7])) (mkC 3 1 ([5, 6, 7])) 0] : List (List (List UInt8))), updS 0 (([[10], [20], [30]] : List (List UInt8)).getD 0 []) ([rowL (mkN 3 1 ([5, 6, 7])) (mkC 3 1 ([5, 6, 7])) 0] : List (List (List UInt8))), ())] : List (Int × (List UInt8 × Unit))) ++ ([(updH 1 (([[10], [20], [30]] : List (List UInt8)).getD 1 []) ([rowL (mkN 3 1 ([5, 6, 7])) (mkC 3 1 ([5, 6, 7])) 1] : List (List (List UInt8))), updS 1 (([[10], [20], [30]] : List (List UInt8)).getD 1 []) ([rowL (mkN 3 1 ([5, 6, 7])) (mkC 3 1 ([5, 6, 7])) 1] : List (List (List UInt8))), ())] : List (Int × (List UInt8 × Unit)))) ++ ([(updH 2 (([[10], [20], [30]] : List (List UInt8)).getD 2 []) ([rowL (mkN 3 1 ([5, 6, 7])) (mkC 3 1 ([5, 6, 7])) 2] : List (List (List UInt8))), updS 2 (([[10], [20], [30]] : List (List UInt8)).getD 2 []) ([rowL (mkN 3 1 ([5, 6, 7])) (mkC 3 1 ([5, 6, 7])) 2] : List (List (List UInt8))), ())] : List (Int × (List UInt8 × Unit)))).getD 1 (0, ([], ()))).2).1) = ([6]) by decide +kernel) h32⟩
  refine ⟨⟨by show (0 : Int) ≤ 2; first | omega | decide +kernel, by show 2 < (((([(updH 0 (([[10], [20], [30]] : List (List UInt8)).getD 0 []) ([rowL (mkN 3 1 ([5, 6, 7])) (mkC 3 1 ([5, 6, 7])) 0] : List (List (List UInt8))), updS 0 (([[10], [20], [30]] : List (List UInt8)).getD 0 []) ([rowL (mkN 3 1 ([5, 6, 7])) (mkC 3 1 ([5, 6, 7])) 0] : List (List (List UInt8))), ())] : List (Int × (List UInt8 × Unit))) ++ ([(updH 1 (([[10], [20], [30]] : List (List UInt8)).getD 1 []) ([rowL (mkN 3 1 ([5, 6, 7])) (mkC 3 1 ([5, 6, 7])) 1] : List (List (List UInt8))), updS 1 (([[10], [20], [30]] : List (List UInt8)).getD 1 []) ([rowL (mkN 3 1 ([5, 6, 7])) (mkC 3 1 ([5, 6, 7])) 1] : List (List (List UInt8))), ())] : List (Int × (List UInt8 × Unit)))) ++ ([(updH 2 (([[10], [20], [30]] : List (List UInt8)).getD 2 []) ([rowL (mkN 3 1 ([5, 6, 7])) (mkC 3 1 ([5, 6, 7])) 2] : List (List (List UInt8))), updS 2 (([[10], [20], [30]] : List (List UInt8)).getD 2 []) ([rowL (mkN 3 1 ([5, 6, 7])) (mkC 3 1 ([5, 6, 7])) 2] : List (List (List UInt8))), ())] : List (Int × (List UInt8 × Unit)))).length : Int); first | omega | decide +kernel⟩, ?_⟩
  exact ⟨rfl, rfl, congrArg V.b (propext ⟨fun _ => trivial, fun _ => by show (((((([(updH 0 (([[10], [20], [30]] : List (List UInt8)).getD 0 []) ([rowL (mkN 3 1 ([5, 6, 7])) (mkC 3 1 ([5, 6, 7])) 0] : List (List (List UInt8))), updS 0 (([[10], [20], [30]] : List (List UInt8)).getD 0 []) ([rowL (mkN 3 1 ([5, 6, 7])) (mkC 3 1 ([5, 6, 7])) 0] : List (List (List UInt8))), ())] : List (Int × (List UInt8 × Unit))) ++ ([(updH 1 (([[10], [20], [30]] : List (List UInt8)).getD 1 []) ([rowL (mkN 3 1 ([5, 6, 7])) (mkC 3 1 ([5, 6, 7])) 1] : List (List (List UInt8))), updS 1 (([[10], [20], [30]] : List (List UInt8)).getD 1 []) ([rowL (mkN 3 1 ([5, 6, 7])) (mkC 3 1 ([5, 6, 7])) 1] : List (List (List UInt8))), ())] : List (Int × (List UInt8 × Unit)))) ++ ([(updH 2 (([[10], [20], [30]] : List (List UInt8)).getD 2 []) ([rowL (mkN 3 1 ([5, 6, 7])) (mkC 3 1 ([5, 6, 7])) 2] : List (List (List UInt8))), updS 2 (([[10], [20], [30]] : List (List UInt8)).getD 2 []) ([rowL (mkN 3 1 ([5, 6, 7])) (mkC 3 1 ([5, 6, 7])) 2] : List (List (List UInt8))), ())] : List (Int × (List UInt8 × Unit)))).getD 2 (0, ([], ()))).2).1) = ([15]); decide +kernel⟩), rfl⟩
def CSan : List (Nat × Con) := (5, pureC [] sSan) :: CFew
theorem kSan : Known Tryd.prog (En CSan tys G6 QPrs) := Known.frz0 <| (kFew.frz [1000001, 1000002]).add Tryd.func5 Tryd.call5 [.k] fun ds p v bs h hp => by
  unfold sSan at h
  split at h <;> simp only [Option.some.injEq, Prod.mk.injEq, reduceCtorEq] at h
  obtain ⟨rfl, rfl, rfl⟩ := h
  exact bSan 
end Go.Proofs.YtcodgflbafanlaaDoor.S27

namespace Go.Proofs.YtcodgflbafanlaaDoor.S27
open Go Go.Proofs.YtcodgflbafanlaaDoor.Vc Go.Proofs
set_option maxRecDepth 100000
set_option linter.unusedVariables false

end Go.Proofs.YtcodgflbafanlaaDoor.S27

namespace Go.Proofs.YtcodgflbafanlaaDoor.S27
open Go Go.Proofs.YtcodgflbafanlaaDoor.Vc Go.Proofs
set_option maxRecDepth 100000
set_option linter.unusedVariables false

theorem bRmulQ {l : List (Nat × Con)} {q : List (Nat × SeqC)} (a b : UInt8) : bodyP (En l tys G6 q) Tryd.f40 [.k] [.u8 a, .u8 b] (.u8 (rmulL a b)) [] := by
  have hat := a.toNat_lt
  have hbt := b.toNat_lt
  refine ⟨0, [(5, .k), (6, .k), (7, .k)], fun f vs H => ∃ x y s : Int, 0 ≤ x ∧ x < 256 ∧ 0 ≤ y ∧ y < 2 ^ f ∧ y < 256 ∧ 0 ≤ s ∧ s < 256 ∧ rmF f x y s = rmF 8 a.toNat b.toNat 0 ∧ vs = [.int .i64 x, .int .i64 y, .int .i64 s] ∧ H = [], ⟨rfl, 8, a.toNat, b.toNat, 0, by omega, by omega, by omega, by omega, by omega, by omega, by omega, rfl, rfl, rfl⟩, ?_⟩
  rintro f vs H ⟨x, y, s, hx0, hx, hy0, hyf, hy, hs0, hs, he, rfl, rfl⟩
  refine ⟨fun hn => ?_, fun hn => ?_⟩
  · cases f with
    | zero => exact absurd hyf (by omega)
    | succ f =>
    have hb : y / 2 < 2 ^ f := by rw [Int.pow_succ] at hyf; omega
    rw [show rmF (f + 1) x y s = _ from if_pos hn] at he
    have hd : (2 * x).toNat = 2 * x.toNat := by omega
    have hx' : 255 < 2 * x → (0 : Int) ≤ (((2 * x).toNat ^^^ 285 : Nat) : Int) ∧ (((2 * x).toNat ^^^ 285 : Nat) : Int) < 256 := fun h => by
      have := xor285 x.toNat (by omega) (by omega)
      rw [hd]
      omega
    have hs' : (0 : Int) ≤ ((s.toNat ^^^ x.toNat : Nat) : Int) ∧ ((s.toNat ^^^ x.toNat : Nat) : Int) < 256 := by
      have : s.toNat ^^^ x.toNat < 2 ^ 8 := Nat.xor_lt_two_pow (by omega) (by omega)
      omega
    have hy2 : 0 ≤ y / 2 := Int.ediv_nonneg hy0 (by omega)
    refine .inl ⟨⟨hy0, by omega⟩, ⟨?_, ?_⟩⟩
    · intro h1
      replace h1 : y % 2 = 1 := h1
      rw [if_pos h1] at he
      refine ⟨⟨hs0, hx0⟩, .inl ⟨⟨hy0, by omega⟩, ⟨⟨by omega, by omega⟩, fun h2 => ?_, fun h2 => ?_⟩⟩⟩
      · rw [if_pos h2] at he
        exact ⟨⟨by omega, by omega⟩, rfl, f, by omega, _, _, _, (hx' h2).1, (hx' h2).2, hy2, hb, by omega, hs'.1, hs'.2, he, rfl, rfl⟩
      · rw [if_neg h2] at he
        exact ⟨rfl, f, by omega, _, _, _, by omega, by omega, hy2, hb, by omega, hs'.1, hs'.2, he, rfl, rfl⟩
    · intro h1
      replace h1 : ¬ y % 2 = 1 := h1
      rw [if_neg h1] at he
      refine .inl ⟨⟨hy0, by omega⟩, ⟨⟨by omega, by omega⟩, fun h2 => ?_, fun h2 => ?_⟩⟩
      · rw [if_pos h2] at he
        exact ⟨⟨by omega, by omega⟩, rfl, f, by omega, _, _, _, (hx' h2).1, (hx' h2).2, hy2, hb, by omega, hs0, hs, he, rfl, rfl⟩
      · rw [if_neg h2] at he
        exact ⟨rfl, f, by omega, _, _, _, by omega, by omega, hy2, hb, by omega, hs0, hs, he, rfl, rfl⟩
  · have : y = 0 := by omega
    subst this
    have : rmF f x 0 s = s := by cases f <;> rfl
    rw [this] at he
    unfold rmulL
    rw [← he]
    exact ⟨rfl, rfl, rfl, rfl⟩

def sRMul : List V → Option (Prop × V × List Blk)
  | [.u8 a, .u8 b] => some (True, .u8 (mulL a b), [])
  | _ => none
set_option maxHeartbeats 1000000 in
theorem bRMul (a : UInt8) (b : UInt8)  : bodyP (En CSan tys G6 QPrs) Tryd.f40 [.k] [.u8 a, .u8 b] (.u8 (mulL a b)) [] := by
  rw [← mul_same]
  exact bRmulQ a b
def CRMul : List (Nat × Con) := (40, pureC [.v .u8, .v .u8] sRMul) :: CSan
theorem kRMul : Known Tryd.prog (En CRMul tys G6 QPrs) := kSan.add Tryd.func40 Tryd.call40 [.k] fun ds p v bs h hp => by
  unfold sRMul at h
  split at h <;> simp only [Option.some.injEq, Prod.mk.injEq, reduceCtorEq] at h
  obtain ⟨rfl, rfl, rfl⟩ := h
  exact bRMul _ _
def rEvA (x : UInt8) : List UInt8 → UInt8 → UInt8 → UInt8
  | [], _, s => s
  | c :: p, w, s => rEvA x p (mulL w x) (s ^^^ mulL c w)
theorem rEvA_ok (x : UInt8) : ∀ (p : List UInt8) (w s : UInt8), rEvA x p w s = s ^^^ mulL w (horner x p)
  | [], w, s => by simp [rEvA, horner, mul_zero']
  | c :: p, w, s => by
    rw [rEvA, rEvA_ok x p, horner, mulL_addr, mul_comm' c w, mul_comm' (horner x p) x, ← mul_assoc']
    ac_rfl
theorem reval_ok (x : UInt8) (p : List UInt8) : rEvA x p 1 0 = horner x p := by rw [rEvA_ok, one_mul']; simp
def sREval : List V → Option (Prop × V × List Blk)
  | [.sl false .u8 p, .u8 x] => some (p.length ≤ 1000000, .u8 (horner x p), [])
  | _ => none
set_option maxHeartbeats 1000000 in
theorem bREval (p : List UInt8) (x : UInt8) (hp0 : p.length ≤ 1000000) : bodyP (En CRMul tys G6 QPrs) Tryd.f32 [.k] [.sl false .u8 p, .u8 x] (.u8 (horner x p)) [] := by
  refine ⟨0, [(0, .k), (1, .k), (5, .k), (6, .k), (7, .k)], fun nM vs H => ∃ (k : Nat) (s w : UInt8), k ≤ p.length ∧ rEvA x (p.drop k) w s = horner x p ∧ nM = p.length - k ∧ vs = [.sl false .u8 p, .u8 x, .u8 s, .u8 w, .int .i64 (k : Int)] ∧ H = [], ⟨rfl, p.length, 0, 0, 1, by omega, reval_ok x p, by omega, rfl, rfl⟩, ?_⟩
  rintro nM vs H ⟨k, s, w, hc1_0, hc1_1, rfl, rfl, rfl⟩
  refine ⟨fun h0 => ?_, fun h0 => ?_⟩
  · replace h0 : (k : Int) < (p.length : Int) := h0
    refine ⟨⟨by show (0 : Int) ≤ (k : Int); omega, by show (k : Int) < (p.length : Int); omega⟩, trivial, trivial, ⟨by show (-9223372036854775808 : Int) ≤ ((k : Int) + 1); omega, by show ((k : Int) + 1) ≤ (9223372036854775807 : Int); omega⟩, ?_⟩
    rw [drop_one p k (by omega), rEvA] at hc1_1
    exact ⟨rfl, p.length - (k + 1), by omega, k + 1, _, _, by omega, hc1_1, rfl, rfl, rfl⟩
  · replace h0 : ¬ ((k : Int) < (p.length : Int)) := h0
    have hk : k = p.length := by omega
    rw [hk, List.drop_length, rEvA] at hc1_1
    rw [hc1_1]
    exact ⟨rfl, rfl, rfl, rfl⟩
def CREval : List (Nat × Con) := (32, pureC [.v (.sl .u8), .v .u8] sREval) :: CRMul
theorem kREval : Known Tryd.prog (En CREval tys G6 QPrs) := kRMul.add Tryd.func32 Tryd.call32 [.k] fun ds p v bs h hp => by
  unfold sREval at h
  split at h <;> simp only [Option.some.injEq, Prod.mk.injEq, reduceCtorEq] at h
  obtain ⟨rfl, rfl, rfl⟩ := h
  exact bREval _ _ hp
end Go.Proofs.YtcodgflbafanlaaDoor.S27

namespace Go.Proofs.YtcodgflbafanlaaDoor.S27
open Go Go.Proofs.YtcodgflbafanlaaDoor.Vc Go.Proofs
set_option maxRecDepth 100000
set_option linter.unusedVariables false

end Go.Proofs.YtcodgflbafanlaaDoor.S27

namespace Go.Proofs.YtcodgflbafanlaaDoor.S27
open Go

abbrev Shr := Int × List UInt8 × Unit
abbrev Dl := Int × List Rw × Unit
def shB (l : List (List UInt8)) (h : Nat) : List UInt8 := l.map fun p => horner (pt (h : Int)) p
theorem mapT_len {α β : Type} (f : α → β) (l : List α) (k : Nat) (h : k ≤ l.length) : ((l.take k).map f).length = k := by rw [List.length_map, List.length_take]; omega

/-! ### shares renewed -/
structure RnOk (N : Nat) (l : List Shr) (ds : List Dl) : Prop where
  n : N ≤ 4096
  len : l.length ≤ 12
  dlen : ds.length ≤ 1000
  sh : ∀ h, h < l.length → (l.getD h (0, [], ())).1 = (h : Int) ∧ (l.getD h (0, [], ())).2.1.length = N
  dl : ∀ d ∈ ds, chkD d.1 d.2.1 = 0 ∧ n00 d.2.1 = N
/-! ### the secret of shares -/
def xsL (l : List Shr) : List UInt8 := l.map fun s => pt s.1
def ysL (l : List Shr) (k : Nat) : List UInt8 := l.map fun s => s.2.1.getD k 0
def sN (l : List Shr) : Nat := (l.getD 0 (0, [], ())).2.1.length
structure SecOk (l : List Shr) (nd : Int) : Prop where
  nd1 : 1 ≤ nd
  nd2 : nd ≤ (l.length : Int)
  len : l.length ≤ 1000
  max : sN l ≤ 1048576
  hs : ∀ s ∈ l, knw s.1
  same : ∀ s ∈ l, s.2.1.length = sN l
  thr : ∀ k, k < sN l → (tpL (xsL l) (ysL l k) (nd - 1)).2 = 0
/-! ### another polynomial -/
end Go.Proofs.YtcodgflbafanlaaDoor.S27

namespace Go.Proofs.YtcodgflbafanlaaDoor.S27
open Go

/-! ### sums -/
def xs' (f : Nat → UInt8) : Nat → UInt8
  | 0 => 0
  | n + 1 => xs' f n ^^^ f n
/-! ### rows of strings, byte for byte -/
def colL (l : Rw) (k : Nat) : List UInt8 := l.map fun s => s.getD k 0
theorem scale_get {c : UInt8} {s : List UInt8} {k : Nat} (h : k < s.length) : (scaleB c s).getD k 0 = mulL c (s.getD k 0) := by
  simp [scaleB, scaleF, List.getD_eq_getElem?_getD, h]
theorem sum_get {a b : List UInt8} {k : Nat} (hl : a.length = b.length) (h : k < a.length) : (sumB a b).getD k 0 = a.getD k 0 ^^^ b.getD k 0 := by
  unfold sumB
  rw [if_neg (by omega)]
  simp [sumF, sumG, List.getD_eq_getElem?_getD, h, hl ▸ h]
theorem ext_get {a b : List UInt8} {N : Nat} (ha : a.length = N) (hb : b.length = N) (h : ∀ k, k < N → a.getD k 0 = b.getD k 0) : a = b := by
  apply List.ext_getElem (by omega)
  intro i h1 h2
  have := h i (by omega)
  simpa [List.getD_eq_getElem?_getD, h1, h2] using this
theorem at_len {x : UInt8} {N : Nat} : ∀ (l : Rw), 1 ≤ l.length → (∀ s ∈ l, s.length = N) → (atL l x).length = N
  | [], h, _ => by simp at h
  | [s], _, h => h s (by simp)
  | s :: t :: r, _, h => by
    rw [atL, sum_len, scale_len, at_len (t :: r) (by simp) fun y hy => h y (by simp [hy]), h s (by simp)]
    omega
theorem at_get {x : UInt8} {N k : Nat} (hk : k < N) : ∀ (l : Rw), 1 ≤ l.length → (∀ s ∈ l, s.length = N) → (atL l x).getD k 0 = horner x (colL l k)
  | [], h, _ => by simp at h
  | [s], _, h => by
    show s.getD k 0 = mulL 0 x ^^^ s.getD k 0
    rw [zero_mul']; simp
  | s :: t :: r, _, h => by
    have hl := at_len (x := x) (t :: r) (by simp) fun y hy => h y (by simp [hy])
    have hs := h s (by simp)
    rw [atL, sum_get (by rw [scale_len]; omega) (by rw [scale_len]; omega), scale_get (by omega), at_get hk (t :: r) (by simp) fun y hy => h y (by simp [hy]), mul_comm']
    rfl

/-! ### deals -/
/-! ### points -/
/-! ### the polynomial through points, as a sum -/
end Go.Proofs.YtcodgflbafanlaaDoor.S27

namespace Go.Proofs.YtcodgflbafanlaaDoor.S27
open Go

/-! ### the specification's ways -/
def atK (l : Rw) (x : UInt8) (k : Nat) : List UInt8 := (List.range k).map fun j => horner x (colL l j)
theorem atK_len (l : Rw) (x : UInt8) (k : Nat) : (atK l x k).length = k := by simp [atK]
theorem atK_snoc {l : Rw} {x : UInt8} {k : Nat} {y : UInt8} (h : y = horner x (colL l k)) : atK l x (k + 1) = atK l x k ++ [y] := by unfold atK; rw [List.range_succ, List.map_append, h]; rfl
theorem atK_all {l : Rw} {x : UInt8} (h1 : 1 ≤ l.length) (h : ∀ s ∈ l, s.length = n0 l) : atK l x (n0 l) = atL l x := by
  refine ext_get (atK_len _ _ _) (at_len l h1 h) fun k hk => ?_
  rw [at_get hk l h1 h]
  simp [atK, List.getD_eq_getElem?_getD, hk]
theorem col_snoc (l : Rw) (k i : Nat) (hi : i < l.length) : colL (l.take (i + 1)) k = colL (l.take i) k ++ [(l.getD i []).getD k 0] := map_take_snoc [] _ l i hi
end Go.Proofs.YtcodgflbafanlaaDoor.S27

namespace Go.Proofs.YtcodgflbafanlaaDoor.S27
open Go Go.Proofs.YtcodgflbafanlaaDoor.Vc Go.Proofs
set_option maxRecDepth 100000
set_option linter.unusedVariables false

def sRIn : List V → Option (Prop × V × List Blk)
  | [.int .i64 h] => some (True, .b (knw h), [])
  | _ => none
set_option maxHeartbeats 1000000 in
theorem bRIn (h : Int)  : bodyP (En CREval tys G6 QPrs) Tryd.f23 [.k] [.int .i64 h] (.b (knw h)) [] := by
  refine ⟨fun h0 => ?_, fun h0 => ?_⟩
  · replace h0 : 0 ≤ h := h0
    exact ⟨rfl, rfl, congrArg V.b (propext (by unfold knw; constructor <;> intro g <;> first | omega | exact Bool.noConfusion g | (exfalso; omega))), rfl⟩
  · replace h0 : ¬ (0 ≤ h) := h0
    exact ⟨rfl, rfl, congrArg V.b (propext (by unfold knw; constructor <;> intro g <;> first | omega | exact Bool.noConfusion g | (exfalso; omega))), rfl⟩
def CRIn : List (Nat × Con) := (23, pureC [.v (.int .i64)] sRIn) :: CREval
theorem kRIn : Known Tryd.prog (En CRIn tys G6 QPrs) := kREval.add Tryd.func23 Tryd.call23 [.k] fun ds p v bs h hp => by
  unfold sRIn at h
  split at h <;> simp only [Option.some.injEq, Prod.mk.injEq, reduceCtorEq] at h
  obtain ⟨rfl, rfl, rfl⟩ := h
  exact bRIn _
def sRAt : List V → Option (Prop × V × List Blk)
  | [.sl false .str l, .u8 x] => some (1 ≤ l.length ∧ l.length ≤ 1000000 ∧ (∀ x ∈ l, x.length = n0 l) ∧ n0 l ≤ 1048576, .str (atL l x), [])
  | _ => none
set_option maxHeartbeats 1000000 in
theorem bRAt (l : List (List UInt8)) (x : UInt8) (hp0 : 1 ≤ l.length) (hp1 : l.length ≤ 1000000) (hp2 : (∀ x ∈ l, x.length = n0 l)) (hp3 : n0 l ≤ 1048576) : bodyP (En CRIn tys G6 QPrs) Tryd.f24 [.k] [.sl false .str l, .u8 x] (.str (atL l x)) [] := by
  refine ⟨0, [(0, .k), (1, .k), (5, .o .u8), (6, .k)], fun nM vs H => ∃ (k : Nat), k ≤ n0 l ∧ nM = n0 l - k ∧ vs = [.sl false .str l, .u8 x, .own .u8 0, .int .i64 (k : Int)] ∧ H = [.row true .u8 (atK l x k)], ⟨rfl, n0 l, 0, by omega, by omega, rfl, rfl⟩, ?_⟩
  rintro nM vs H ⟨k, hc1_0, rfl, rfl, rfl⟩
  have hsl := atK_len l x k
  have hn0 : (l.getD 0 []).length = n0 l := rfl
  refine ⟨⟨by show (0 : Int) ≤ 0; omega, by show 0 < (l.length : Int); omega⟩, fun h0 => ?_, fun h0 => ?_⟩
  · replace h0 : (k : Int) < (((l.getD 0 []).length : Nat) : Int) := h0
    refine ⟨0, [(0, .k), (1, .k), (5, .o .u8), (6, .k), (7, .o .u8), (8, .k)], fun nM vs H => ∃ (i : Nat), i ≤ l.length ∧ nM = l.length - i ∧ vs = [.sl false .str l, .u8 x, .own .u8 0, .int .i64 (k : Int), .own .u8 1, .int .i64 (i : Int)] ∧ H = [.row true .u8 (atK l x k), .row true .u8 (colL (l.take i) k)], ⟨rfl, l.length, 0, by omega, by omega, rfl, rfl⟩, ?_⟩
    rintro nM vs H ⟨i, hc2_0, rfl, rfl, rfl⟩
    have hcl : (colL (l.take i) k).length = i := mapT_len _ l i (by omega)
    refine ⟨fun h1 => ?_, fun h1 => ?_⟩
    · replace h1 : (i : Int) < (l.length : Int) := h1
      have hi : i < l.length := by omega
      have hli := hp2 _ (getD_mem [] l i hi)
      refine ⟨⟨by show (0 : Int) ≤ (i : Int); omega, by show (i : Int) < (l.length : Int); omega⟩, ⟨by show (0 : Int) ≤ (k : Int); omega, by show (k : Int) < ((l.getD i []).length : Int); omega⟩, ⟨rfl, rfl⟩, by show (colL (l.take i) k).length + ([(l.getD i []).getD k 0] : List UInt8).length ≤ 1000000000; simp only [List.length_cons, List.length_nil]; omega, ⟨by show (-9223372036854775808 : Int) ≤ ((i : Int) + 1); omega, by show ((i : Int) + 1) ≤ (9223372036854775807 : Int); omega⟩, ?_⟩
      exact ⟨rfl, l.length - (i + 1), by omega, i + 1, by omega, rfl, rfl, by rw [col_snoc l k i hi]; rfl⟩
    · replace h1 : ¬ ((i : Int) < (l.length : Int)) := h1
      have hir : l.take i = l := List.take_of_length_le (by omega)
      refine ⟨by show (colL (l.take i) k).length ≤ 1000000; first | omega | assumption | (simp only [List.length_cons, List.length_nil, List.length_append, List.length_take, List.length_drop, List.length_set, List.length_replicate]; omega), ⟨rfl, rfl⟩, by show (atK l x k).length + ([horner x (colL (l.take i) k)] : List UInt8).length ≤ 1000000000; simp only [List.length_cons, List.length_nil]; omega, ⟨by show (-9223372036854775808 : Int) ≤ ((k : Int) + 1); omega, by show ((k : Int) + 1) ≤ (9223372036854775807 : Int); omega⟩, ?_⟩
      exact ⟨rfl, n0 l - (k + 1), by omega, k + 1, by omega, rfl, rfl, by rw [atK_snoc (show horner x (colL (l.take i) k) = _ by rw [hir])]; rfl⟩
  · replace h0 : ¬ ((k : Int) < (((l.getD 0 []).length : Nat) : Int)) := h0
    rw [← atK_all hp0 hp2, show n0 l = k by omega]
    exact ⟨rfl, rfl, rfl, rfl⟩
def CRAt : List (Nat × Con) := (24, pureC [.v (.sl .str), .v .u8] sRAt) :: CRIn
theorem kRAt : Known Tryd.prog (En CRAt tys G6 QPrs) := kRIn.add Tryd.func24 Tryd.call24 [.k] fun ds p v bs h hp => by
  unfold sRAt at h
  split at h <;> simp only [Option.some.injEq, Prod.mk.injEq, reduceCtorEq] at h
  obtain ⟨rfl, rfl, rfl⟩ := h
  exact bRAt _ _ hp.1 hp.2.1 hp.2.2.1 hp.2.2.2
end Go.Proofs.YtcodgflbafanlaaDoor.S27

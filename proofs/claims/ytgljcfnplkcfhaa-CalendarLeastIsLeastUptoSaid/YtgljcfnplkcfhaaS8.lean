/- Texts of this claim: S29.L6, S29.Cd0. -/
import Derived.Test.YtgljcfnplkcfhaaS4
import Derived.Test.YtgljcfnplkcfhaaS7
import Derived.Test.YtgljcfnplkcfhaaRows
import Derived.WalkKit
import Derived.ProofKit
import Derived.OpenShut
import Derived.Deep.DeepHandedRow
import Derived.Lib.LaidTab
import Derived.Test.YtgljcfnplkcfhaaVc8
import Derived.Test.YtgljcfnplkcfhaaS0
set_option linter.unusedVariables false
set_option linter.unusedSimpArgs false
namespace Go.Proofs.Ytgljcfnplkcfhaa.S29
open Go Go.Proofs.Ytgljcfnplkcfhaa.Vc Go.Proofs
set_option maxRecDepth 100000
set_option linter.unusedVariables false

def sLLeast : List V → Option (Prop × V × List Blk)
  | [.agg [.int .i64 b, .int .i64 l, .int .i64 d, .int .i64 m, .sl false (.int .i64) hs], .sl false (.cons (.int .i64) (.cons (.int .i64) .nil)) a, .dat false (.arr 2 (.int .i64)) nu] => some (hs.length ≤ 1048576 ∧ a.length ≤ 1048576 ∧ nu.length = 2, .b True, [])
  | _ => none
set_option maxHeartbeats 4000000 in
theorem bLLeast (b : Int) (l : Int) (d : Int) (m : Int) (hs : List Int) (a : List (Int × (Int × Unit))) (nu : List Int) (hp0 : hs.length ≤ 1048576) (hp1 : a.length ≤ 1048576) (hp2 : nu.length = 2) : bodyP (En CSan tys [] QAt) Try.f8 [.k] [.agg [.int .i64 b, .int .i64 l, .int .i64 d, .int .i64 m, .sl false (.int .i64) hs], .sl false (.cons (.int .i64) (.cons (.int .i64) .nil)) a, .dat false (.arr 2 (.int .i64)) nu] (.b True) [] := by
  refine ⟨⟨rfl, by first | assumption | simp⟩, by kernel_rfl, ⟨by show (0 : Int) ≤ 0; omega, by show 0 < (2 : Int); omega, by first | assumption | simp⟩, ⟨by show (0 : Int) ≤ 1; omega, by show 1 < (2 : Int); omega, by first | assumption | simp⟩, rfl, rfl, rfl, rfl, by show hs.length ≤ 2000000; first | omega | assumption, fun h0 => ?_, fun h0 => ?_⟩
  · replace h0 : ¬ ((chkL b l d m hs) ≠ 0) := h0
    refine ⟨rfl, rfl, rfl, rfl, rfl, by show hs.length ≤ 2000000; first | omega | assumption, fun h1 => ?_, fun h1 => ?_⟩
    · replace h1 : ¬ (¬ (fewP b l d m hs 40)) := h1
      refine ⟨fun h2 => ?_, fun h2 => ?_⟩
      · replace h2 : 30 < (a.length : Int) := h2
        refine ⟨trivial, ?_⟩
        exact ⟨rfl, rfl, congrArg V.b (propext ⟨fun _ => trivial, fun _ => by first | trivial | rfl⟩), rfl⟩
      · replace h2 : ¬ (30 < (a.length : Int)) := h2
        refine ⟨rfl, rfl, rfl, rfl, rfl, ⟨by show hs.length ≤ 2000000; first | omega | assumption, by show a.length ≤ 2000000; first | omega | assumption⟩, fun h3 => ?_, fun h3 => ?_⟩
        · replace h3 : (lstE b l d m hs (nu.getD 0 0) a) ≠ 0 := h3
          refine ⟨fun h4 => ?_, fun h4 => ?_⟩
          · replace h4 : (lstE b l d m hs (nu.getD 0 0) a) ≠ 8 := h4
            refine ⟨trivial, fun h5 => ?_, fun h5 => absurd (show True by trivial) h5⟩
            exact ⟨rfl, rfl, congrArg V.b (propext ⟨fun _ => trivial, fun _ => congrArg (fun s : List Int => ((s.length : Nat) : Int)) (lst_nil h3)⟩), rfl⟩
          · replace h4 : ¬ ((lstE b l d m hs (nu.getD 0 0) a) ≠ 8) := h4
            obtain ⟨hra, hT0⟩ := lst_eight (Classical.not_not.1 h4)
            refine ⟨3, [(1, .k), (3, .k), (7, .k), (8, .k), (9, .o (.int .i64)), (10, .k), (11, .o (.cons (.int .i64) (.cons (.int .i64) .nil))), (58, .k), (59, .k), (60, .k)], fun n vs H => ∃ (k : Nat) (xs : List (Int × (Int × Unit))), k ≤ a.length ∧ (∀ x ∈ xs, x ∈ a) ∧ xs.length ≤ k ∧ n = a.length - k ∧ vs = [.sl false (.cons (.int .i64) (.cons (.int .i64) .nil)) a, .ptr 0 1 0 0, .int .i64 (nu.getD 0 0), .int .i64 (nu.getD 1 0), .own (.int .i64) 2, .int .i64 (lstE b l d m hs (nu.getD 0 0) a), .own (.cons (.int .i64) (.cons (.int .i64) .nil)) 3, .sl false (.cons (.int .i64) (.cons (.int .i64) .nil)) a, .int .i64 (a.length : Int), .int .i64 (k : Int)] ∧ H = [.cells [.int .i64 b, .int .i64 l, .int .i64 d, .int .i64 m, .sl false (.int .i64) hs], .row true (.int .i64) nu, .row true (.int .i64) (lstL b l d m hs (nu.getD 0 0) a), .row true (.cons (.int .i64) (.cons (.int .i64) .nil)) xs], ⟨rfl, a.length, 0, [], by omega, by simp, by simp, by omega, rfl, rfl⟩, ?_⟩
            rintro n vs H ⟨k, xs, hc1_0, hc1_1, hc1_2, rfl, rfl, rfl⟩
            refine ⟨fun h6 => ?_, fun h6 => ?_⟩
            · replace h6 : (k : Int) < (a.length : Int) := h6
              refine ⟨⟨by show (0 : Int) ≤ (k : Int); omega, by show (k : Int) < (a.length : Int); omega⟩, ⟨rfl, rfl, rfl, Nat.le_of_ble_eq_true rfl⟩, ⟨by show (0 : Int) ≤ (k : Int); omega, by show (k : Int) ≤ (64 : Int); omega⟩, .inr ⟨rfl, ?_⟩⟩
              refine ⟨fun h7 => ?_, fun h7 => ?_⟩
              · replace h7 : (((nu.getD 1 0) / 2 ^ k) % 2) = 1 := h7
                refine ⟨rfl, rfl, ⟨rfl, rfl⟩, by show xs.length + ([((a.getD k (0, (0, ()))).1, ((a.getD k (0, (0, ()))).2).1, ())] : List (Int × (Int × Unit))).length ≤ 1000000000; simp only [List.length_cons, List.length_nil]; omega, ⟨by show (-9223372036854775808 : Int) ≤ ((k : Int) + 1); omega, by show ((k : Int) + 1) ≤ (9223372036854775807 : Int); omega⟩, ?_⟩
                first | (skip; first | exact ⟨rfl, a.length - (k + 1), by omega, k + 1, xs, by omega, hc1_1, by omega, rfl, rfl, rfl⟩ | exact ⟨rfl, a.length - (k + 1), by omega, k + 1, xs ++ [a.getD k (0, (0, ()))], by omega, fun x hx => (List.mem_append.1 hx).elim (hc1_1 x) (fun h => by rw [List.mem_singleton.1 h]; exact getD_mem (0, (0, ())) a k (by omega)), by rw [List.length_append, List.length_cons, List.length_nil]; omega, rfl, rfl, rfl⟩) | (skip; first | exact ⟨rfl, a.length - (k + 1), by omega, k + 1, xs, by omega, hc2_1, by omega, rfl, rfl, rfl⟩ | exact ⟨rfl, a.length - (k + 1), by omega, k + 1, xs ++ [a.getD k (0, (0, ()))], by omega, fun x hx => (List.mem_append.1 hx).elim (hc2_1 x) (fun h => by rw [List.mem_singleton.1 h]; exact getD_mem (0, (0, ())) a k (by omega)), by rw [List.length_append, List.length_cons, List.length_nil]; omega, rfl, rfl, rfl⟩)
              · replace h7 : ¬ ((((nu.getD 1 0) / 2 ^ k) % 2) = 1) := h7
                refine ⟨⟨by show (-9223372036854775808 : Int) ≤ ((k : Int) + 1); omega, by show ((k : Int) + 1) ≤ (9223372036854775807 : Int); omega⟩, ?_⟩
                first | (skip; first | exact ⟨rfl, a.length - (k + 1), by omega, k + 1, xs, by omega, hc1_1, by omega, rfl, rfl, rfl⟩ | exact ⟨rfl, a.length - (k + 1), by omega, k + 1, xs ++ [a.getD k (0, (0, ()))], by omega, fun x hx => (List.mem_append.1 hx).elim (hc1_1 x) (fun h => by rw [List.mem_singleton.1 h]; exact getD_mem (0, (0, ())) a k (by omega)), by rw [List.length_append, List.length_cons, List.length_nil]; omega, rfl, rfl, rfl⟩) | (skip; first | exact ⟨rfl, a.length - (k + 1), by omega, k + 1, xs, by omega, hc2_1, by omega, rfl, rfl, rfl⟩ | exact ⟨rfl, a.length - (k + 1), by omega, k + 1, xs ++ [a.getD k (0, (0, ()))], by omega, fun x hx => (List.mem_append.1 hx).elim (hc2_1 x) (fun h => by rw [List.mem_singleton.1 h]; exact getD_mem (0, (0, ())) a k (by omega)), by rw [List.length_append, List.length_cons, List.length_nil]; omega, rfl, rfl, rfl⟩)
            · replace h6 : ¬ ((k : Int) < (a.length : Int)) := h6
              have hrx := red_sub hra (by omega) hc1_1
              refine ⟨rfl, rfl, rfl, rfl, rfl, ⟨by show hs.length ≤ 2000000; first | omega | assumption, by show xs.length ≤ 2000000; first | omega | assumption⟩, fun h8 => ?_, fun h8 => absurd h8 (show ¬ ((redL b l d m hs (nu.getD 0 0) xs) ≠ 0) by exact fun h => h hrx)⟩
              refine ⟨fun h9 => ?_, fun h9 => absurd (show (lstE b l d m hs (nu.getD 0 0) a) = 8 by first | omega | assumption | simp_all) h9⟩
              refine ⟨fun h10 => absurd h10 (show ¬ (0 < (((telL b l d m hs (nu.getD 0 0) xs).length : Nat) : Int)) by rw [tel_none hra hc1_1 hT0]; decide), fun h10 => ?_⟩
              refine ⟨fun h11 => ?_, fun h11 => absurd (show (lstE b l d m hs (nu.getD 0 0) a) = 8 by first | omega | assumption | simp_all) h11⟩
              refine ⟨trivial, fun h12 => ?_, fun h12 => absurd (show True by trivial) h12⟩
              exact ⟨rfl, rfl, congrArg V.b (propext ⟨fun _ => trivial, fun _ => congrArg (fun s : List Int => ((s.length : Nat) : Int)) (lst_nil h3)⟩), rfl⟩
        · replace h3 : ¬ ((lstE b l d m hs (nu.getD 0 0) a) ≠ 0) := h3
          have hE : lstE b l d m hs (nu.getD 0 0) a = 0 := Classical.not_not.1 h3
          obtain ⟨hra, _⟩ := lst_is hE
          obtain ⟨hL1, hL2, hL3, hL4⟩ := lst_ok hE
          have hLa : (lstL b l d m hs (nu.getD 0 0) a).length ≤ a.length := by have := tel_need (b := b) (l := l) (d := d) (m := m) (hs := hs) (bad := (nu.getD 0 0)) (xs := a) (fun e => by obtain ⟨_, q, hq, _⟩ := lst_is hE; rw [e] at hq; simp at hq); omega
          refine ⟨3, [(1, .k), (3, .k), (7, .k), (8, .k), (9, .o (.int .i64)), (10, .k), (11, .o (.cons (.int .i64) (.cons (.int .i64) .nil))), (58, .k), (59, .k), (60, .k)], fun n vs H => ∃ (k : Nat) (xs : List (Int × (Int × Unit))), k ≤ a.length ∧ (∀ x ∈ xs, x ∈ a) ∧ xs.length ≤ k ∧ n = a.length - k ∧ vs = [.sl false (.cons (.int .i64) (.cons (.int .i64) .nil)) a, .ptr 0 1 0 0, .int .i64 (nu.getD 0 0), .int .i64 (nu.getD 1 0), .own (.int .i64) 2, .int .i64 (lstE b l d m hs (nu.getD 0 0) a), .own (.cons (.int .i64) (.cons (.int .i64) .nil)) 3, .sl false (.cons (.int .i64) (.cons (.int .i64) .nil)) a, .int .i64 (a.length : Int), .int .i64 (k : Int)] ∧ H = [.cells [.int .i64 b, .int .i64 l, .int .i64 d, .int .i64 m, .sl false (.int .i64) hs], .row true (.int .i64) nu, .row true (.int .i64) (lstL b l d m hs (nu.getD 0 0) a), .row true (.cons (.int .i64) (.cons (.int .i64) .nil)) xs], ⟨rfl, a.length, 0, [], by omega, by simp, by simp, by omega, rfl, rfl⟩, ?_⟩
          rintro n vs H ⟨k, xs, hc2_0, hc2_1, hc2_2, rfl, rfl, rfl⟩
          refine ⟨fun h13 => ?_, fun h13 => ?_⟩
          · replace h13 : (k : Int) < (a.length : Int) := h13
            refine ⟨⟨by show (0 : Int) ≤ (k : Int); omega, by show (k : Int) < (a.length : Int); omega⟩, ⟨rfl, rfl, rfl, Nat.le_of_ble_eq_true rfl⟩, ⟨by show (0 : Int) ≤ (k : Int); omega, by show (k : Int) ≤ (64 : Int); omega⟩, .inr ⟨rfl, ?_⟩⟩
            refine ⟨fun h14 => ?_, fun h14 => ?_⟩
            · replace h14 : (((nu.getD 1 0) / 2 ^ k) % 2) = 1 := h14
              refine ⟨rfl, rfl, ⟨rfl, rfl⟩, by show xs.length + ([((a.getD k (0, (0, ()))).1, ((a.getD k (0, (0, ()))).2).1, ())] : List (Int × (Int × Unit))).length ≤ 1000000000; simp only [List.length_cons, List.length_nil]; omega, ⟨by show (-9223372036854775808 : Int) ≤ ((k : Int) + 1); omega, by show ((k : Int) + 1) ≤ (9223372036854775807 : Int); omega⟩, ?_⟩
              first | (skip; first | exact ⟨rfl, a.length - (k + 1), by omega, k + 1, xs, by omega, hc1_1, by omega, rfl, rfl, rfl⟩ | exact ⟨rfl, a.length - (k + 1), by omega, k + 1, xs ++ [a.getD k (0, (0, ()))], by omega, fun x hx => (List.mem_append.1 hx).elim (hc1_1 x) (fun h => by rw [List.mem_singleton.1 h]; exact getD_mem (0, (0, ())) a k (by omega)), by rw [List.length_append, List.length_cons, List.length_nil]; omega, rfl, rfl, rfl⟩) | (skip; first | exact ⟨rfl, a.length - (k + 1), by omega, k + 1, xs, by omega, hc2_1, by omega, rfl, rfl, rfl⟩ | exact ⟨rfl, a.length - (k + 1), by omega, k + 1, xs ++ [a.getD k (0, (0, ()))], by omega, fun x hx => (List.mem_append.1 hx).elim (hc2_1 x) (fun h => by rw [List.mem_singleton.1 h]; exact getD_mem (0, (0, ())) a k (by omega)), by rw [List.length_append, List.length_cons, List.length_nil]; omega, rfl, rfl, rfl⟩)
            · replace h14 : ¬ ((((nu.getD 1 0) / 2 ^ k) % 2) = 1) := h14
              refine ⟨⟨by show (-9223372036854775808 : Int) ≤ ((k : Int) + 1); omega, by show ((k : Int) + 1) ≤ (9223372036854775807 : Int); omega⟩, ?_⟩
              first | (skip; first | exact ⟨rfl, a.length - (k + 1), by omega, k + 1, xs, by omega, hc1_1, by omega, rfl, rfl, rfl⟩ | exact ⟨rfl, a.length - (k + 1), by omega, k + 1, xs ++ [a.getD k (0, (0, ()))], by omega, fun x hx => (List.mem_append.1 hx).elim (hc1_1 x) (fun h => by rw [List.mem_singleton.1 h]; exact getD_mem (0, (0, ())) a k (by omega)), by rw [List.length_append, List.length_cons, List.length_nil]; omega, rfl, rfl, rfl⟩) | (skip; first | exact ⟨rfl, a.length - (k + 1), by omega, k + 1, xs, by omega, hc2_1, by omega, rfl, rfl, rfl⟩ | exact ⟨rfl, a.length - (k + 1), by omega, k + 1, xs ++ [a.getD k (0, (0, ()))], by omega, fun x hx => (List.mem_append.1 hx).elim (hc2_1 x) (fun h => by rw [List.mem_singleton.1 h]; exact getD_mem (0, (0, ())) a k (by omega)), by rw [List.length_append, List.length_cons, List.length_nil]; omega, rfl, rfl, rfl⟩)
          · replace h13 : ¬ ((k : Int) < (a.length : Int)) := h13
            have hrx := red_sub hra (by omega) hc2_1
            refine ⟨rfl, rfl, rfl, rfl, rfl, ⟨by show hs.length ≤ 2000000; first | omega | assumption, by show xs.length ≤ 2000000; first | omega | assumption⟩, fun h15 => ?_, fun h15 => absurd h15 (show ¬ ((redL b l d m hs (nu.getD 0 0) xs) ≠ 0) by exact fun h => h hrx)⟩
            refine ⟨fun h16 => absurd h16 (show ¬ ((lstE b l d m hs (nu.getD 0 0) a) = 8) by rw [hE]; decide), fun h16 => ?_⟩
            refine ⟨fun h17 => absurd h17 (show ¬ ((lstE b l d m hs (nu.getD 0 0) a) = 8) by rw [hE]; decide), fun h17 => ?_⟩
            refine ⟨fun h18 => ?_, fun h18 => ?_⟩
            · replace h18 : 0 < (((telL b l d m hs (nu.getD 0 0) xs).length : Nat) : Int) := h18
              refine ⟨fun h19 => absurd h19 (show ¬ ((xs.length : Int) < (((lstL b l d m hs (nu.getD 0 0) a).length : Nat) : Int)) by have := tel_need (b := b) (l := l) (d := d) (m := m) (hs := hs) (bad := (nu.getD 0 0)) (xs := xs) (fun e => by rw [e] at h18; simp at h18); omega), fun h19 => ?_⟩
              refine ⟨5, [(1, .k), (3, .k), (7, .k), (9, .o (.int .i64)), (16, .o (.cons (.int .i64) (.cons (.int .i64) .nil))), (111, .o (.int .i64)), (112, .k), (113, .k)], fun n vs H => ∃ (k : Nat), k ≤ (lstL b l d m hs (nu.getD 0 0) a).length ∧ n = (lstL b l d m hs (nu.getD 0 0) a).length - k ∧ vs = [.sl false (.cons (.int .i64) (.cons (.int .i64) .nil)) a, .ptr 0 1 0 0, .int .i64 (nu.getD 0 0), .own (.int .i64) 2, .own (.cons (.int .i64) (.cons (.int .i64) .nil)) 5, .own (.int .i64) 2, .int .i64 (((lstL b l d m hs (nu.getD 0 0) a).length : Nat) : Int), .int .i64 (k : Int)] ∧ H = [.cells [.int .i64 b, .int .i64 l, .int .i64 d, .int .i64 m, .sl false (.int .i64) hs], .row true (.int .i64) nu, .row true (.int .i64) (lstL b l d m hs (nu.getD 0 0) a), .row true (.cons (.int .i64) (.cons (.int .i64) .nil)) xs, .row true (.int .i64) (telL b l d m hs (nu.getD 0 0) xs), .row true (.cons (.int .i64) (.cons (.int .i64) .nil)) (somL a ((lstL b l d m hs (nu.getD 0 0) a).take k))], ⟨rfl, (lstL b l d m hs (nu.getD 0 0) a).length, 0, by omega, by omega, rfl, rfl⟩, ?_⟩
              rintro n vs H ⟨k, hc3_0, rfl, rfl, rfl⟩
              refine ⟨fun h20 => ?_, fun h20 => ?_⟩
              · replace h20 : (k : Int) < (((lstL b l d m hs (nu.getD 0 0) a).length : Nat) : Int) := h20
                have hLk := hL2 k (by omega)
                have hsl := som_len a (lstL b l d m hs (nu.getD 0 0) a) k
                refine ⟨⟨by show (0 : Int) ≤ (k : Int); omega, by show (k : Int) < ((lstL b l d m hs (nu.getD 0 0) a).length : Int); omega⟩, fun h21 => ?_, fun h21 => absurd h21 (show ¬ (((lstL b l d m hs (nu.getD 0 0) a).getD k 0) < 0) by have := hL2 k (by omega); omega)⟩
                refine ⟨fun h22 => ?_, fun h22 => absurd h22 (show ¬ ((a.length : Int) ≤ ((lstL b l d m hs (nu.getD 0 0) a).getD k 0)) by have := hL2 k (by omega); omega)⟩
                refine ⟨fun h23 => ?_, fun h23 => ?_⟩
                · replace h23 : 0 < (k : Int) := h23
                  refine ⟨⟨by show (-9223372036854775808 : Int) ≤ ((k : Int) - 1); omega, by show ((k : Int) - 1) ≤ (9223372036854775807 : Int); omega⟩, ⟨by show (0 : Int) ≤ ((k : Int) - 1); omega, by show ((k : Int) - 1) < ((lstL b l d m hs (nu.getD 0 0) a).length : Int); omega⟩, fun h24 => absurd h24 (show ¬ (((lstL b l d m hs (nu.getD 0 0) a).getD k 0) ≤ ((lstL b l d m hs (nu.getD 0 0) a).getD (((k : Int) - 1).toNat) 0)) by have := hL1 (k - 1) k (by omega) (by omega); rw [show ((k : Int) - 1).toNat = k - 1 by omega]; omega), fun h24 => ?_⟩
                  refine ⟨⟨by show (0 : Int) ≤ ((lstL b l d m hs (nu.getD 0 0) a).getD k 0); omega, by show ((lstL b l d m hs (nu.getD 0 0) a).getD k 0) < (a.length : Int); omega⟩, rfl, rfl, ⟨rfl, rfl⟩, by show (somL a ((lstL b l d m hs (nu.getD 0 0) a).take k)).length + ([((a.getD (((lstL b l d m hs (nu.getD 0 0) a).getD k 0).toNat) (0, (0, ()))).1, ((a.getD (((lstL b l d m hs (nu.getD 0 0) a).getD k 0).toNat) (0, (0, ()))).2).1, ())] : List (Int × (Int × Unit))).length ≤ 1000000000; simp only [List.length_cons, List.length_nil]; omega, ⟨by show (-9223372036854775808 : Int) ≤ ((k : Int) + 1); omega, by show ((k : Int) + 1) ≤ (9223372036854775807 : Int); omega⟩, ?_⟩
                  exact ⟨rfl, (lstL b l d m hs (nu.getD 0 0) a).length - (k + 1), by omega, k + 1, by omega, rfl, rfl, by rw [somL_snoc (by omega)]; rfl⟩
                · replace h23 : ¬ (0 < (k : Int)) := h23
                  refine ⟨⟨by show (0 : Int) ≤ ((lstL b l d m hs (nu.getD 0 0) a).getD k 0); omega, by show ((lstL b l d m hs (nu.getD 0 0) a).getD k 0) < (a.length : Int); omega⟩, rfl, rfl, ⟨rfl, rfl⟩, by show (somL a ((lstL b l d m hs (nu.getD 0 0) a).take k)).length + ([((a.getD (((lstL b l d m hs (nu.getD 0 0) a).getD k 0).toNat) (0, (0, ()))).1, ((a.getD (((lstL b l d m hs (nu.getD 0 0) a).getD k 0).toNat) (0, (0, ()))).2).1, ())] : List (Int × (Int × Unit))).length ≤ 1000000000; simp only [List.length_cons, List.length_nil]; omega, ⟨by show (-9223372036854775808 : Int) ≤ ((k : Int) + 1); omega, by show ((k : Int) + 1) ≤ (9223372036854775807 : Int); omega⟩, ?_⟩
                  exact ⟨rfl, (lstL b l d m hs (nu.getD 0 0) a).length - (k + 1), by omega, k + 1, by omega, rfl, rfl, by rw [somL_snoc (by omega)]; rfl⟩
              · replace h20 : ¬ ((k : Int) < (((lstL b l d m hs (nu.getD 0 0) a).length : Nat) : Int)) := h20
                have eA : (lstL b l d m hs (nu.getD 0 0) a).take k = (lstL b l d m hs (nu.getD 0 0) a) := List.take_of_length_le (by omega)
                have hsl := som_len a (lstL b l d m hs (nu.getD 0 0) a) k
                have hsm := som_mem hL2 k
                have hrA : redL b l d m hs (nu.getD 0 0) (somL a ((lstL b l d m hs (nu.getD 0 0) a).take k)) = 0 := red_sub hra (by omega) hsm
                have hTA : telL b l d m hs (nu.getD 0 0) (somL a ((lstL b l d m hs (nu.getD 0 0) a).take k)) ≠ [] := by rw [eA]; exact hL4
                have hrL : ∀ j, redL b l d m hs (nu.getD 0 0) (lessL (somL a ((lstL b l d m hs (nu.getD 0 0) a).take k)) j) = 0 := fun j => red_sub hrA (by have := less_le (S := (somL a ((lstL b l d m hs (nu.getD 0 0) a).take k))) (j := j); omega) less_mem
                have hnL : ∀ j, j < (somL a ((lstL b l d m hs (nu.getD 0 0) a).take k)).length → telL b l d m hs (nu.getD 0 0) (lessL (somL a ((lstL b l d m hs (nu.getD 0 0) a).take k)) j) = [] := fun j hj => less_none hj (by rw [hsl, ← hL3]; congr 1; omega)
                refine ⟨rfl, rfl, rfl, rfl, rfl, ⟨by show hs.length ≤ 2000000; first | omega | assumption, by show (somL a ((lstL b l d m hs (nu.getD 0 0) a).take k)).length ≤ 2000000; first | omega | assumption | (simp only [List.length_cons, List.length_nil, List.length_append, List.length_take, List.length_drop, List.length_set, List.length_replicate]; omega)⟩, fun h25 => ?_, fun h25 => absurd h25 (show ¬ ((redL b l d m hs (nu.getD 0 0) (somL a ((lstL b l d m hs (nu.getD 0 0) a).take k))) ≠ 0) by exact fun h => h hrA)⟩
                refine ⟨fun h26 => absurd h26 (show ¬ ((((telL b l d m hs (nu.getD 0 0) (somL a ((lstL b l d m hs (nu.getD 0 0) a).take k))).length : Nat) : Int) = 0) by exact fun h => hTA (List.eq_nil_of_length_eq_zero (by omega))), fun h26 => ?_⟩
                refine ⟨5, [(3, .k), (7, .k), (16, .o (.cons (.int .i64) (.cons (.int .i64) .nil))), (162, .k), (163, .k)], fun n vs H => ∃ (j : Nat), j ≤ (somL a ((lstL b l d m hs (nu.getD 0 0) a).take k)).length ∧ n = (somL a ((lstL b l d m hs (nu.getD 0 0) a).take k)).length - j ∧ vs = [.ptr 0 1 0 0, .int .i64 (nu.getD 0 0), .own (.cons (.int .i64) (.cons (.int .i64) .nil)) 5, .int .i64 (((somL a ((lstL b l d m hs (nu.getD 0 0) a).take k)).length : Nat) : Int), .int .i64 (j : Int)] ∧ H = [.cells [.int .i64 b, .int .i64 l, .int .i64 d, .int .i64 m, .sl false (.int .i64) hs], .row true (.int .i64) nu, .row true (.int .i64) (lstL b l d m hs (nu.getD 0 0) a), .row true (.cons (.int .i64) (.cons (.int .i64) .nil)) xs, .row true (.int .i64) (telL b l d m hs (nu.getD 0 0) xs), .row true (.cons (.int .i64) (.cons (.int .i64) .nil)) (somL a ((lstL b l d m hs (nu.getD 0 0) a).take k))], ⟨rfl, (somL a ((lstL b l d m hs (nu.getD 0 0) a).take k)).length, 0, by omega, by omega, rfl, rfl⟩, ?_⟩
                rintro n vs H ⟨j, hc4_0, rfl, rfl, rfl⟩
                refine ⟨fun h27 => ?_, fun h27 => ?_⟩
                · replace h27 : (j : Int) < (((somL a ((lstL b l d m hs (nu.getD 0 0) a).take k)).length : Nat) : Int) := h27
                  refine ⟨by kernel_rfl, ⟨by omega, by omega⟩, ⟨rfl, rfl⟩, by simp only [List.length_cons, List.length_nil, List.length_append, List.length_take, List.length_drop]; omega, ⟨by show (-9223372036854775808 : Int) ≤ ((j : Int) + 1); omega, by show ((j : Int) + 1) ≤ (9223372036854775807 : Int); omega⟩, ⟨by omega, by omega⟩, ⟨rfl, rfl⟩, by simp only [List.length_cons, List.length_nil, List.length_append, List.length_take, List.length_drop]; omega, rfl, rfl, rfl, rfl, rfl, ⟨by show hs.length ≤ 2000000; first | omega | assumption, by show ((([] : List (Int × (Int × Unit))) ++ (((somL a ((lstL b l d m hs (nu.getD 0 0) a).take k)).drop 0).take (j - 0))) ++ (((somL a ((lstL b l d m hs (nu.getD 0 0) a).take k)).drop (((j : Int) + 1).toNat)).take ((somL a ((lstL b l d m hs (nu.getD 0 0) a).take k)).length - ((j : Int) + 1).toNat))).length ≤ 2000000; first | omega | assumption | (simp only [List.length_cons, List.length_nil, List.length_append, List.length_take, List.length_drop, List.length_set, List.length_replicate]; omega)⟩, fun h28 => ?_, fun h28 => absurd h28 (show ¬ ((redL b l d m hs (nu.getD 0 0) ((([] : List (Int × (Int × Unit))) ++ (((somL a ((lstL b l d m hs (nu.getD 0 0) a).take k)).drop 0).take (j - 0))) ++ (((somL a ((lstL b l d m hs (nu.getD 0 0) a).take k)).drop (((j : Int) + 1).toNat)).take ((somL a ((lstL b l d m hs (nu.getD 0 0) a).take k)).length - ((j : Int) + 1).toNat)))) ≠ 0) by exact fun h => h (hrL j))⟩
                  refine ⟨fun h29 => absurd h29 (show ¬ (0 < (((telL b l d m hs (nu.getD 0 0) ((([] : List (Int × (Int × Unit))) ++ (((somL a ((lstL b l d m hs (nu.getD 0 0) a).take k)).drop 0).take (j - 0))) ++ (((somL a ((lstL b l d m hs (nu.getD 0 0) a).take k)).drop (((j : Int) + 1).toNat)).take ((somL a ((lstL b l d m hs (nu.getD 0 0) a).take k)).length - ((j : Int) + 1).toNat)))).length : Nat) : Int)) by exact fun h => by have e := hnL j (by omega); replace h : 0 < (((telL b l d m hs (nu.getD 0 0) (lessL (somL a ((lstL b l d m hs (nu.getD 0 0) a).take k)) j)).length : Nat) : Int) := h; rw [e] at h; simp at h), fun h29 => ?_⟩
                  refine ⟨⟨by show (-9223372036854775808 : Int) ≤ ((j : Int) + 1); omega, by show ((j : Int) + 1) ≤ (9223372036854775807 : Int); omega⟩, ?_⟩
                  exact ⟨rfl, (somL a ((lstL b l d m hs (nu.getD 0 0) a).take k)).length - (j + 1), by omega, j + 1, by omega, rfl, rfl, rfl⟩
                · replace h27 : ¬ ((j : Int) < (((somL a ((lstL b l d m hs (nu.getD 0 0) a).take k)).length : Nat) : Int)) := h27
                  refine ⟨trivial, ?_⟩
                  exact ⟨rfl, rfl, congrArg V.b (propext ⟨fun _ => trivial, fun _ => by first | trivial | rfl⟩), rfl⟩
            · replace h18 : ¬ (0 < (((telL b l d m hs (nu.getD 0 0) xs).length : Nat) : Int)) := h18
              refine ⟨5, [(1, .k), (3, .k), (7, .k), (9, .o (.int .i64)), (16, .o (.cons (.int .i64) (.cons (.int .i64) .nil))), (111, .o (.int .i64)), (112, .k), (113, .k)], fun n vs H => ∃ (k : Nat), k ≤ (lstL b l d m hs (nu.getD 0 0) a).length ∧ n = (lstL b l d m hs (nu.getD 0 0) a).length - k ∧ vs = [.sl false (.cons (.int .i64) (.cons (.int .i64) .nil)) a, .ptr 0 1 0 0, .int .i64 (nu.getD 0 0), .own (.int .i64) 2, .own (.cons (.int .i64) (.cons (.int .i64) .nil)) 5, .own (.int .i64) 2, .int .i64 (((lstL b l d m hs (nu.getD 0 0) a).length : Nat) : Int), .int .i64 (k : Int)] ∧ H = [.cells [.int .i64 b, .int .i64 l, .int .i64 d, .int .i64 m, .sl false (.int .i64) hs], .row true (.int .i64) nu, .row true (.int .i64) (lstL b l d m hs (nu.getD 0 0) a), .row true (.cons (.int .i64) (.cons (.int .i64) .nil)) xs, .row true (.int .i64) (telL b l d m hs (nu.getD 0 0) xs), .row true (.cons (.int .i64) (.cons (.int .i64) .nil)) (somL a ((lstL b l d m hs (nu.getD 0 0) a).take k))], ⟨rfl, (lstL b l d m hs (nu.getD 0 0) a).length, 0, by omega, by omega, rfl, rfl⟩, ?_⟩
              rintro n vs H ⟨k, hc5_0, rfl, rfl, rfl⟩
              refine ⟨fun h30 => ?_, fun h30 => ?_⟩
              · replace h30 : (k : Int) < (((lstL b l d m hs (nu.getD 0 0) a).length : Nat) : Int) := h30
                have hLk := hL2 k (by omega)
                have hsl := som_len a (lstL b l d m hs (nu.getD 0 0) a) k
                refine ⟨⟨by show (0 : Int) ≤ (k : Int); omega, by show (k : Int) < ((lstL b l d m hs (nu.getD 0 0) a).length : Int); omega⟩, fun h31 => ?_, fun h31 => absurd h31 (show ¬ (((lstL b l d m hs (nu.getD 0 0) a).getD k 0) < 0) by have := hL2 k (by omega); omega)⟩
                refine ⟨fun h32 => ?_, fun h32 => absurd h32 (show ¬ ((a.length : Int) ≤ ((lstL b l d m hs (nu.getD 0 0) a).getD k 0)) by have := hL2 k (by omega); omega)⟩
                refine ⟨fun h33 => ?_, fun h33 => ?_⟩
                · replace h33 : 0 < (k : Int) := h33
                  refine ⟨⟨by show (-9223372036854775808 : Int) ≤ ((k : Int) - 1); omega, by show ((k : Int) - 1) ≤ (9223372036854775807 : Int); omega⟩, ⟨by show (0 : Int) ≤ ((k : Int) - 1); omega, by show ((k : Int) - 1) < ((lstL b l d m hs (nu.getD 0 0) a).length : Int); omega⟩, fun h34 => absurd h34 (show ¬ (((lstL b l d m hs (nu.getD 0 0) a).getD k 0) ≤ ((lstL b l d m hs (nu.getD 0 0) a).getD (((k : Int) - 1).toNat) 0)) by have := hL1 (k - 1) k (by omega) (by omega); rw [show ((k : Int) - 1).toNat = k - 1 by omega]; omega), fun h34 => ?_⟩
                  refine ⟨⟨by show (0 : Int) ≤ ((lstL b l d m hs (nu.getD 0 0) a).getD k 0); omega, by show ((lstL b l d m hs (nu.getD 0 0) a).getD k 0) < (a.length : Int); omega⟩, rfl, rfl, ⟨rfl, rfl⟩, by show (somL a ((lstL b l d m hs (nu.getD 0 0) a).take k)).length + ([((a.getD (((lstL b l d m hs (nu.getD 0 0) a).getD k 0).toNat) (0, (0, ()))).1, ((a.getD (((lstL b l d m hs (nu.getD 0 0) a).getD k 0).toNat) (0, (0, ()))).2).1, ())] : List (Int × (Int × Unit))).length ≤ 1000000000; simp only [List.length_cons, List.length_nil]; omega, ⟨by show (-9223372036854775808 : Int) ≤ ((k : Int) + 1); omega, by show ((k : Int) + 1) ≤ (9223372036854775807 : Int); omega⟩, ?_⟩
                  exact ⟨rfl, (lstL b l d m hs (nu.getD 0 0) a).length - (k + 1), by omega, k + 1, by omega, rfl, rfl, by rw [somL_snoc (by omega)]; rfl⟩
                · replace h33 : ¬ (0 < (k : Int)) := h33
                  refine ⟨⟨by show (0 : Int) ≤ ((lstL b l d m hs (nu.getD 0 0) a).getD k 0); omega, by show ((lstL b l d m hs (nu.getD 0 0) a).getD k 0) < (a.length : Int); omega⟩, rfl, rfl, ⟨rfl, rfl⟩, by show (somL a ((lstL b l d m hs (nu.getD 0 0) a).take k)).length + ([((a.getD (((lstL b l d m hs (nu.getD 0 0) a).getD k 0).toNat) (0, (0, ()))).1, ((a.getD (((lstL b l d m hs (nu.getD 0 0) a).getD k 0).toNat) (0, (0, ()))).2).1, ())] : List (Int × (Int × Unit))).length ≤ 1000000000; simp only [List.length_cons, List.length_nil]; omega, ⟨by show (-9223372036854775808 : Int) ≤ ((k : Int) + 1); omega, by show ((k : Int) + 1) ≤ (9223372036854775807 : Int); omega⟩, ?_⟩
                  exact ⟨rfl, (lstL b l d m hs (nu.getD 0 0) a).length - (k + 1), by omega, k + 1, by omega, rfl, rfl, by rw [somL_snoc (by omega)]; rfl⟩
              · replace h30 : ¬ ((k : Int) < (((lstL b l d m hs (nu.getD 0 0) a).length : Nat) : Int)) := h30
                have eA : (lstL b l d m hs (nu.getD 0 0) a).take k = (lstL b l d m hs (nu.getD 0 0) a) := List.take_of_length_le (by omega)
                have hsl := som_len a (lstL b l d m hs (nu.getD 0 0) a) k
                have hsm := som_mem hL2 k
                have hrA : redL b l d m hs (nu.getD 0 0) (somL a ((lstL b l d m hs (nu.getD 0 0) a).take k)) = 0 := red_sub hra (by omega) hsm
                have hTA : telL b l d m hs (nu.getD 0 0) (somL a ((lstL b l d m hs (nu.getD 0 0) a).take k)) ≠ [] := by rw [eA]; exact hL4
                have hrL : ∀ j, redL b l d m hs (nu.getD 0 0) (lessL (somL a ((lstL b l d m hs (nu.getD 0 0) a).take k)) j) = 0 := fun j => red_sub hrA (by have := less_le (S := (somL a ((lstL b l d m hs (nu.getD 0 0) a).take k))) (j := j); omega) less_mem
                have hnL : ∀ j, j < (somL a ((lstL b l d m hs (nu.getD 0 0) a).take k)).length → telL b l d m hs (nu.getD 0 0) (lessL (somL a ((lstL b l d m hs (nu.getD 0 0) a).take k)) j) = [] := fun j hj => less_none hj (by rw [hsl, ← hL3]; congr 1; omega)
                refine ⟨rfl, rfl, rfl, rfl, rfl, ⟨by show hs.length ≤ 2000000; first | omega | assumption, by show (somL a ((lstL b l d m hs (nu.getD 0 0) a).take k)).length ≤ 2000000; first | omega | assumption | (simp only [List.length_cons, List.length_nil, List.length_append, List.length_take, List.length_drop, List.length_set, List.length_replicate]; omega)⟩, fun h35 => ?_, fun h35 => absurd h35 (show ¬ ((redL b l d m hs (nu.getD 0 0) (somL a ((lstL b l d m hs (nu.getD 0 0) a).take k))) ≠ 0) by exact fun h => h hrA)⟩
                refine ⟨fun h36 => absurd h36 (show ¬ ((((telL b l d m hs (nu.getD 0 0) (somL a ((lstL b l d m hs (nu.getD 0 0) a).take k))).length : Nat) : Int) = 0) by exact fun h => hTA (List.eq_nil_of_length_eq_zero (by omega))), fun h36 => ?_⟩
                refine ⟨5, [(3, .k), (7, .k), (16, .o (.cons (.int .i64) (.cons (.int .i64) .nil))), (162, .k), (163, .k)], fun n vs H => ∃ (j : Nat), j ≤ (somL a ((lstL b l d m hs (nu.getD 0 0) a).take k)).length ∧ n = (somL a ((lstL b l d m hs (nu.getD 0 0) a).take k)).length - j ∧ vs = [.ptr 0 1 0 0, .int .i64 (nu.getD 0 0), .own (.cons (.int .i64) (.cons (.int .i64) .nil)) 5, .int .i64 (((somL a ((lstL b l d m hs (nu.getD 0 0) a).take k)).length : Nat) : Int), .int .i64 (j : Int)] ∧ H = [.cells [.int .i64 b, .int .i64 l, .int .i64 d, .int .i64 m, .sl false (.int .i64) hs], .row true (.int .i64) nu, .row true (.int .i64) (lstL b l d m hs (nu.getD 0 0) a), .row true (.cons (.int .i64) (.cons (.int .i64) .nil)) xs, .row true (.int .i64) (telL b l d m hs (nu.getD 0 0) xs), .row true (.cons (.int .i64) (.cons (.int .i64) .nil)) (somL a ((lstL b l d m hs (nu.getD 0 0) a).take k))], ⟨rfl, (somL a ((lstL b l d m hs (nu.getD 0 0) a).take k)).length, 0, by omega, by omega, rfl, rfl⟩, ?_⟩
                rintro n vs H ⟨j, hc6_0, rfl, rfl, rfl⟩
                refine ⟨fun h37 => ?_, fun h37 => ?_⟩
                · replace h37 : (j : Int) < (((somL a ((lstL b l d m hs (nu.getD 0 0) a).take k)).length : Nat) : Int) := h37
                  refine ⟨by kernel_rfl, ⟨by omega, by omega⟩, ⟨rfl, rfl⟩, by simp only [List.length_cons, List.length_nil, List.length_append, List.length_take, List.length_drop]; omega, ⟨by show (-9223372036854775808 : Int) ≤ ((j : Int) + 1); omega, by show ((j : Int) + 1) ≤ (9223372036854775807 : Int); omega⟩, ⟨by omega, by omega⟩, ⟨rfl, rfl⟩, by simp only [List.length_cons, List.length_nil, List.length_append, List.length_take, List.length_drop]; omega, rfl, rfl, rfl, rfl, rfl, ⟨by show hs.length ≤ 2000000; first | omega | assumption, by show ((([] : List (Int × (Int × Unit))) ++ (((somL a ((lstL b l d m hs (nu.getD 0 0) a).take k)).drop 0).take (j - 0))) ++ (((somL a ((lstL b l d m hs (nu.getD 0 0) a).take k)).drop (((j : Int) + 1).toNat)).take ((somL a ((lstL b l d m hs (nu.getD 0 0) a).take k)).length - ((j : Int) + 1).toNat))).length ≤ 2000000; first | omega | assumption | (simp only [List.length_cons, List.length_nil, List.length_append, List.length_take, List.length_drop, List.length_set, List.length_replicate]; omega)⟩, fun h38 => ?_, fun h38 => absurd h38 (show ¬ ((redL b l d m hs (nu.getD 0 0) ((([] : List (Int × (Int × Unit))) ++ (((somL a ((lstL b l d m hs (nu.getD 0 0) a).take k)).drop 0).take (j - 0))) ++ (((somL a ((lstL b l d m hs (nu.getD 0 0) a).take k)).drop (((j : Int) + 1).toNat)).take ((somL a ((lstL b l d m hs (nu.getD 0 0) a).take k)).length - ((j : Int) + 1).toNat)))) ≠ 0) by exact fun h => h (hrL j))⟩
                  refine ⟨fun h39 => absurd h39 (show ¬ (0 < (((telL b l d m hs (nu.getD 0 0) ((([] : List (Int × (Int × Unit))) ++ (((somL a ((lstL b l d m hs (nu.getD 0 0) a).take k)).drop 0).take (j - 0))) ++ (((somL a ((lstL b l d m hs (nu.getD 0 0) a).take k)).drop (((j : Int) + 1).toNat)).take ((somL a ((lstL b l d m hs (nu.getD 0 0) a).take k)).length - ((j : Int) + 1).toNat)))).length : Nat) : Int)) by exact fun h => by have e := hnL j (by omega); replace h : 0 < (((telL b l d m hs (nu.getD 0 0) (lessL (somL a ((lstL b l d m hs (nu.getD 0 0) a).take k)) j)).length : Nat) : Int) := h; rw [e] at h; simp at h), fun h39 => ?_⟩
                  refine ⟨⟨by show (-9223372036854775808 : Int) ≤ ((j : Int) + 1); omega, by show ((j : Int) + 1) ≤ (9223372036854775807 : Int); omega⟩, ?_⟩
                  exact ⟨rfl, (somL a ((lstL b l d m hs (nu.getD 0 0) a).take k)).length - (j + 1), by omega, j + 1, by omega, rfl, rfl, rfl⟩
                · replace h37 : ¬ ((j : Int) < (((somL a ((lstL b l d m hs (nu.getD 0 0) a).take k)).length : Nat) : Int)) := h37
                  refine ⟨trivial, ?_⟩
                  exact ⟨rfl, rfl, congrArg V.b (propext ⟨fun _ => trivial, fun _ => by first | trivial | rfl⟩), rfl⟩
    · replace h1 : ¬ (fewP b l d m hs 40) := h1
      refine ⟨trivial, ?_⟩
      exact ⟨rfl, rfl, congrArg V.b (propext ⟨fun _ => trivial, fun _ => by first | trivial | rfl⟩), rfl⟩
  · replace h0 : (chkL b l d m hs) ≠ 0 := h0
    refine ⟨trivial, ?_⟩
    exact ⟨rfl, rfl, congrArg V.b (propext ⟨fun _ => trivial, fun _ => by first | trivial | rfl⟩), rfl⟩
end Go.Proofs.Ytgljcfnplkcfhaa.S29

namespace Go.Proofs.Ytgljcfnplkcfhaa.Cd
open Go Go.Proofs.Ytgljcfnplkcfhaa.Vc Go.Proofs Go.Proofs.Ytgljcfnplkcfhaa.S29 Go.ChangeShapes Go.WideShapes Go.ChangeAt Go.RowKit
set_option maxRecDepth 100000
set_option linter.unusedVariables false

theorem bulkAll {H : Type} : ∀ l : List (DataW H), Rows.uptoBulkAll l = (l.map Rows.uptoBulk).sum
  | [] => rfl
  | d :: l => by rw [Rows.uptoBulkAll, bulkAll l]; rfl
theorem bulk {H : Type} : Bulk (H := H) Rows.uptoBulk where
  one d := by cases d with
    | lit l => cases l <;> simp [Rows.uptoBulk]
    | _ => simp [Rows.uptoBulk]
  str b := by simp [Rows.uptoBulk]
  sl es sp := by rw [Rows.uptoBulk, bulkAll, bulkAll]; omega
  agg ps := by rw [Rows.uptoBulk, bulkAll]; omega
theorem wt_cons (t ts : Ty) (x : (Ty.cons t ts).D) : wt (.cons t ts) x = wt t x.1 + wt ts x.2 := rfl
theorem wt_int (k : IntKind) (x : Int) : wt (.int k) x = 1 := rfl
theorem wt_nil (x : Unit) : wt .nil x = 0 := rfl
theorem wt_sl (t : Ty) (h : ∀ x, 1 ≤ wt t x) (xs : List t.D) : xs.length ≤ wt (.sl t) xs := by
  have e : wt (.sl t) xs = (xs.map (wt t)).sum + 1 := rfl
  rw [e]
  clear e
  induction xs with
  | nil => simp
  | cons x xs ih => have := h x; simp only [List.map_cons, List.sum_cons, List.length_cons]; omega
theorem laidOut : laidOutB Try.prog = true := by kernel_rfl
theorem own : ownKnob Try.prog.godebug = none := by kernel_rfl

section
variable {H : Type} {enc : TypeId × Value → H} {P : Program}
theorem post_same {f : Func} {s : ChangeSpec} {apart fresh handsOn again : Bool} {W W' : World} {args : Array Value} {v : Value} {ds gs : List (DataW H)} {before pa pv : List MemPlace}
    (hW : DataW.Whole enc P f.params.toList s.vars apart W args.toList ds gs before)
    (hres : ∀ (b : Nat) (sp : Nat → Bool) (hd : Bool), DataW.TrodAll enc P W' b sp hd f.resultTypes.toList (v.resultList f.resultTypes.size) (s.fn H (ds ++ gs)).results [])
    (hargs : ∀ sp : Nat → Bool, (∀ p ∈ before, sp p.block = true) → DataW.TrodAll enc P W' 0 sp true f.params.toList args.toList (s.fn H (ds ++ gs)).args pa)
    (hvars : ∀ sp : Nat → Bool, (∀ p ∈ before, sp p.block = true) → DataW.TrodVars enc P W' sp s.vars (s.fn H (ds ++ gs)).vars pv)
    (hps : before = pa ++ pv) (hb : Below W.heap.size W W')
    (hok : ∀ (j : Nat) (t : TypeId) (r : Value), f.resultTypes[j]? = some t → (v.resultList f.resultTypes.size)[j]? = some r → Value.okWide P W' .any 0 t r) :
    s.post enc P f apart fresh handsOn again W args v W' := by
  have hlt : ∀ p ∈ before, p.block < W.heap.size := fun p hp => by simpa using hW.lt p hp
  have hold : ∀ p ∈ before, (fun b => decide (b < W.heap.size)) p.block = true := fun p hp => by simpa using hW.lt p hp
  refine ⟨ds, gs, before, [], pa, pv, hW, hres _ _ _, hargs _ hold, hvars _ hold, World.keptBut_mono (fun p hp => ⟨hp, ?_⟩) (hb.frame (· ∈ before)), fun _ => ?_⟩
  · rw [hps, List.mem_append] at hp
    exact Or.inr hp
  · obtain ⟨_, _, _, _, _, hz, hn⟩ := hW
    refine ⟨hok, _, _, ([] ++ pa) ++ pv, ⟨[] ++ pa, pv, trodAll_append (hargs _ (fun _ _ => rfl)) (hres _ _ _), hvars _ (fun _ _ => rfl), rfl, ?_, ?_⟩, ?_⟩
    · intro b off hp
      have hp' : MemPlace.cell b off ∈ before := by rw [hps]; simpa using hp
      rw [hb.frozen (hlt _ hp')]
      exact hz b off hp'
    · intro ha
      have := hn ha
      rw [hps] at this
      simpa using this
    · intro p hp _
      rw [hps]
      simpa using hp
end
end Go.Proofs.Ytgljcfnplkcfhaa.Cd

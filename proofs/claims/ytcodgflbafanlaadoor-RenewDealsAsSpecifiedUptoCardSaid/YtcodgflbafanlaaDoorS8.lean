/- Texts of this claim: S27d.M0, S27d.M1, S27d.M2, S27d.M3, S27d.M4, S27d.M5, S27d.M6, S27d.M7. -/
import Derived.Test.YtcodgflbafanlaaDoorS2
set_option linter.unusedVariables false
set_option linter.unusedSimpArgs false
namespace Go.Proofs.YtcodgflbafanlaaDoor.S27
open Go Go.Proofs.YtcodgflbafanlaaDoor.Vc Go.Proofs
set_option maxRecDepth 100000
set_option linter.unusedVariables false

set_option maxHeartbeats 2000000 in
theorem bMk0 (nd : Int) (sz : Int) (nz : List UInt8) (hn : nd < 2 ∨ 12 < nd ∨ sz < 0 ∨ 4096 < sz) : bodyP (En CRk tys G6 QPrs [1000000, 1000001]) Tryd.f6 [.m 1 .str, .k] [.int .i64 nd, .int .i64 sz, .str nz] (.tup [.agg [.int .i64 0, .sl true (.sl .str) []], .int .i64 3]) [] := by
  refine ⟨fun h0 => ?_, fun h0 => ?_⟩
  · replace h0 : ¬ (nd < 2) := h0
    refine ⟨fun h1 => ?_, fun h1 => ?_⟩
    · replace h1 : ¬ (12 < nd) := h1
      refine ⟨fun h2 => ?_, fun h2 => ?_⟩
      · replace h2 : ¬ (sz < 0) := h2
        refine ⟨fun h3 => ?_, fun h3 => ?_⟩
        · replace h3 : 4096 < sz := h3
          refine ⟨⟨rfl, rfl, rfl, Nat.le_of_ble_eq_true rfl⟩, ?_⟩
          exact kr4 (v := .tup [.agg [.int .i64 0, .sl true (.sl .str) []], .int .i64 3]) (by kernel_rfl)
        · replace h3 : ¬ (4096 < sz) := h3
          omega
      · replace h2 : sz < 0 := h2
        refine ⟨⟨rfl, rfl, rfl, Nat.le_of_ble_eq_true rfl⟩, ?_⟩
        exact kr4 (v := .tup [.agg [.int .i64 0, .sl true (.sl .str) []], .int .i64 3]) (by kernel_rfl)
    · replace h1 : 12 < nd := h1
      refine ⟨⟨rfl, rfl, rfl, Nat.le_of_ble_eq_true rfl⟩, ?_⟩
      exact kr4 (v := .tup [.agg [.int .i64 0, .sl true (.sl .str) []], .int .i64 3]) (by kernel_rfl)
  · replace h0 : nd < 2 := h0
    refine ⟨⟨rfl, rfl, rfl, Nat.le_of_ble_eq_true rfl⟩, ?_⟩
    exact kr4 (v := .tup [.agg [.int .i64 0, .sl true (.sl .str) []], .int .i64 3]) (by kernel_rfl)
set_option maxHeartbeats 2000000 in
theorem bMkN (nd : Int) (sz : Int) (nz : List UInt8) (g2 : 2 ≤ nd) (g12 : nd ≤ 12) (hz : 0 ≤ sz) (hs4 : sz ≤ 4096) (hb1 : 0 ≤ sz * (nd - 1) ∧ sz * (nd - 1) ≤ 45056) (hb2 : 0 ≤ (sz * (nd - 1)) * ((nd - 1) + 1) ∧ (sz * (nd - 1)) * ((nd - 1) + 1) ≤ 540672) (hl : ¬ (nz.length : Int) = ((sz * (nd - 1)) * ((nd - 1) + 1)) / 2) : bodyP (En CRk tys G6 QPrs [1000000, 1000001]) Tryd.f6 [.m 1 .str, .k] [.int .i64 nd, .int .i64 sz, .str nz] (.tup [.agg [.int .i64 0, .sl true (.sl .str) []], .int .i64 1]) [] := by
  refine ⟨fun h0 => ?_, fun h0 => ?_⟩
  · replace h0 : ¬ (nd < 2) := h0
    refine ⟨fun h1 => ?_, fun h1 => ?_⟩
    · replace h1 : ¬ (12 < nd) := h1
      refine ⟨fun h2 => ?_, fun h2 => ?_⟩
      · replace h2 : ¬ (sz < 0) := h2
        refine ⟨fun h3 => ?_, fun h3 => ?_⟩
        · replace h3 : 4096 < sz := h3
          omega
        · replace h3 : ¬ (4096 < sz) := h3
          refine ⟨⟨by show (-9223372036854775808 : Int) ≤ (nd - 1); omega, by show (nd - 1) ≤ (9223372036854775807 : Int); omega⟩, ⟨by show (-9223372036854775808 : Int) ≤ (sz * (nd - 1)); omega, by show (sz * (nd - 1)) ≤ (9223372036854775807 : Int); omega⟩, ⟨by show (-9223372036854775808 : Int) ≤ ((nd - 1) + 1); omega, by show ((nd - 1) + 1) ≤ (9223372036854775807 : Int); omega⟩, ⟨by show (-9223372036854775808 : Int) ≤ ((sz * (nd - 1)) * ((nd - 1) + 1)); omega, by show ((sz * (nd - 1)) * ((nd - 1) + 1)) ≤ (9223372036854775807 : Int); omega⟩, .inl ⟨⟨by show (0 : Int) ≤ ((sz * (nd - 1)) * ((nd - 1) + 1)); omega, by show (0 : Int) < 2; omega⟩, ?_⟩⟩
          refine ⟨fun h4 => ?_, fun h4 => ?_⟩
          · replace h4 : (nz.length : Int) ≠ (((sz * (nd - 1)) * ((nd - 1) + 1)) / 2) := h4
            refine ⟨⟨rfl, rfl, rfl, Nat.le_of_ble_eq_true rfl⟩, ?_⟩
            exact kr4 (v := .tup [.agg [.int .i64 0, .sl true (.sl .str) []], .int .i64 1]) (by kernel_rfl)
          · replace h4 : ¬ ((nz.length : Int) ≠ (((sz * (nd - 1)) * ((nd - 1) + 1)) / 2)) := h4
            exact absurd (Classical.not_not.1 h4) hl
      · replace h2 : sz < 0 := h2
        omega
    · replace h1 : 12 < nd := h1
      omega
  · replace h0 : nd < 2 := h0
    omega
end Go.Proofs.YtcodgflbafanlaaDoor.S27

namespace Go.Proofs.YtcodgflbafanlaaDoor.S27
open Go Go.Proofs.YtcodgflbafanlaaDoor.Vc Go.Proofs
set_option maxRecDepth 100000
set_option linter.unusedVariables false

set_option maxHeartbeats 2000000 in
theorem bMk2 (sz : Int) (nz : List UInt8) (hz : 0 ≤ sz) (h1 : sz ≤ 4096) (hl : (nz.length : Int) = sz * ((1 : Nat) : Int)) : bodyP (En CRk tys G6 QPrs [1000000, 1000001]) Tryd.f6 [.m 1 .str, .k] [.int .i64 2, .int .i64 sz, .str nz] (.tup [.agg [.int .i64 2, .sl true (.sl .str) (mkD 1 sz.toNat nz)], .int .i64 0]) [] := by
  have c := @cutOk sz nz 1 hz hl
  refine ⟨fun h0 => ?_, fun h0 => absurd h0 (show ¬ ((2 : Int) < 2) by decide)⟩
  refine ⟨fun h1 => ?_, fun h1 => absurd h1 (show ¬ ((12 : Int) < 2) by decide)⟩
  refine ⟨fun h2 => ?_, fun h2 => ?_⟩
  · replace h2 : ¬ (sz < 0) := h2
    refine ⟨fun h3 => ?_, fun h3 => ?_⟩
    · replace h3 : 4096 < sz := h3
      omega
    · replace h3 : ¬ (4096 < sz) := h3
      refine ⟨q, ⟨by show (-9223372036854775808 : Int) ≤ (sz * 1); omega, by show (sz * 1) ≤ (9223372036854775807 : Int); omega⟩, q, ⟨by show (-9223372036854775808 : Int) ≤ ((sz * 1) * 2); omega, by show ((sz * 1) * 2) ≤ (9223372036854775807 : Int); omega⟩, .inl ⟨⟨by show (0 : Int) ≤ ((sz * 1) * 2); omega, by show (0 : Int) < 2; omega⟩, ?_⟩⟩
      refine ⟨fun h4 => ?_, fun h4 => ?_⟩
      · replace h4 : (nz.length : Int) ≠ (((sz * 1) * 2) / 2) := h4
        omega
      · replace h4 : ¬ ((nz.length : Int) ≠ (((sz * 1) * 2) / 2)) := h4
        refine ⟨⟨rfl, by decide, by decide⟩, ⟨rfl, rfl, rfl, Nat.le_of_ble_eq_true rfl⟩, .inr ?_⟩
        refine yy q ?_
        refine ⟨by kernel_rfl, ⟨rfl, by show (0 : Int) ≤ 1; omega, by show 1 ≤ (1000000000 : Int); omega⟩, q, ww3, q, nn q ?_⟩
        refine .inr (yy q ?_)
        refine .inr (yy q ?_)
        refine ⟨by kernel_rfl, q, q, (c 0 q), (c 0 q), q, ww, q, ww, (c 0 q), q, nn q ?_⟩
        refine ⟨q, nn q ?_⟩
        refine ⟨⟨rfl, rfl, rfl, Nat.le_of_ble_eq_true rfl⟩, ?_⟩
        exact kr4 (v := .tup [.agg [.int .i64 2, .sl true (.sl .str) (mkD 1 sz.toNat nz)], .int .i64 0]) (by kernel_rfl)
  · replace h2 : sz < 0 := h2
    omega
end Go.Proofs.YtcodgflbafanlaaDoor.S27

namespace Go.Proofs.YtcodgflbafanlaaDoor.S27
open Go Go.Proofs.YtcodgflbafanlaaDoor.Vc Go.Proofs
set_option maxRecDepth 100000
set_option linter.unusedVariables false

set_option maxHeartbeats 2000000 in
theorem bMk3 (sz : Int) (nz : List UInt8) (hz : 0 ≤ sz) (h1 : sz ≤ 4096) (hl : (nz.length : Int) = sz * ((3 : Nat) : Int)) : bodyP (En CRk tys G6 QPrs [1000000, 1000001]) Tryd.f6 [.m 1 .str, .k] [.int .i64 3, .int .i64 sz, .str nz] (.tup [.agg [.int .i64 3, .sl true (.sl .str) (mkD 2 sz.toNat nz)], .int .i64 0]) [] := by
  have c := @cutOk sz nz 3 hz hl
  refine ⟨fun h0 => ?_, fun h0 => absurd h0 (show ¬ ((3 : Int) < 2) by decide)⟩
  refine ⟨fun h1 => ?_, fun h1 => absurd h1 (show ¬ ((12 : Int) < 3) by decide)⟩
  refine ⟨fun h2 => ?_, fun h2 => ?_⟩
  · replace h2 : ¬ (sz < 0) := h2
    refine ⟨fun h3 => ?_, fun h3 => ?_⟩
    · replace h3 : 4096 < sz := h3
      omega
    · replace h3 : ¬ (4096 < sz) := h3
      refine ⟨q, ⟨by show (-9223372036854775808 : Int) ≤ (sz * 2); omega, by show (sz * 2) ≤ (9223372036854775807 : Int); omega⟩, q, ⟨by show (-9223372036854775808 : Int) ≤ ((sz * 2) * 3); omega, by show ((sz * 2) * 3) ≤ (9223372036854775807 : Int); omega⟩, .inl ⟨⟨by show (0 : Int) ≤ ((sz * 2) * 3); omega, by show (0 : Int) < 2; omega⟩, ?_⟩⟩
      refine ⟨fun h4 => ?_, fun h4 => ?_⟩
      · replace h4 : (nz.length : Int) ≠ (((sz * 2) * 3) / 2) := h4
        omega
      · replace h4 : ¬ ((nz.length : Int) ≠ (((sz * 2) * 3) / 2)) := h4
        refine ⟨⟨rfl, by decide, by decide⟩, ⟨rfl, rfl, rfl, Nat.le_of_ble_eq_true rfl⟩, .inr ?_⟩
        refine yy q ?_
        refine ⟨by kernel_rfl, ⟨rfl, by show (0 : Int) ≤ 2; omega, by show 2 ≤ (1000000000 : Int); omega⟩, q, ww3, q, yy q ?_⟩
        refine ⟨by kernel_rfl, ⟨rfl, by show (0 : Int) ≤ 2; omega, by show 2 ≤ (1000000000 : Int); omega⟩, q, ww3, q, nn q ?_⟩
        refine .inr (yy q ?_)
        refine .inr (yy q ?_)
        refine ⟨by kernel_rfl, q, q, (c 0 q), (c 0 q), q, ww, q, ww, (c 0 q), q, yy q ?_⟩
        refine ⟨by kernel_rfl, q, q, (c 1 q), (c 1 q), q, ww, q, ww, (c 1 q), q, nn q ?_⟩
        refine ⟨q, yy q ?_⟩
        refine .inr (yy q ?_)
        refine ⟨by kernel_rfl, q, q, (c 2 q), (c 2 q), q, ww, q, ww, (c 2 q), q, nn q ?_⟩
        refine ⟨q, nn q ?_⟩
        refine ⟨⟨rfl, rfl, rfl, Nat.le_of_ble_eq_true rfl⟩, ?_⟩
        exact kr4 (v := .tup [.agg [.int .i64 3, .sl true (.sl .str) (mkD 2 sz.toNat nz)], .int .i64 0]) (by kernel_rfl)
  · replace h2 : sz < 0 := h2
    omega
end Go.Proofs.YtcodgflbafanlaaDoor.S27

namespace Go.Proofs.YtcodgflbafanlaaDoor.S27
open Go Go.Proofs.YtcodgflbafanlaaDoor.Vc Go.Proofs
set_option maxRecDepth 100000
set_option linter.unusedVariables false

set_option maxHeartbeats 2000000 in
theorem bMk4 (sz : Int) (nz : List UInt8) (hz : 0 ≤ sz) (h1 : sz ≤ 4096) (hl : (nz.length : Int) = sz * ((6 : Nat) : Int)) : bodyP (En CRk tys G6 QPrs [1000000, 1000001]) Tryd.f6 [.m 1 .str, .k] [.int .i64 4, .int .i64 sz, .str nz] (.tup [.agg [.int .i64 4, .sl true (.sl .str) (mkD 3 sz.toNat nz)], .int .i64 0]) [] := by
  have c := @cutOk sz nz 6 hz hl
  refine ⟨fun h0 => ?_, fun h0 => absurd h0 (show ¬ ((4 : Int) < 2) by decide)⟩
  refine ⟨fun h1 => ?_, fun h1 => absurd h1 (show ¬ ((12 : Int) < 4) by decide)⟩
  refine ⟨fun h2 => ?_, fun h2 => ?_⟩
  · replace h2 : ¬ (sz < 0) := h2
    refine ⟨fun h3 => ?_, fun h3 => ?_⟩
    · replace h3 : 4096 < sz := h3
      omega
    · replace h3 : ¬ (4096 < sz) := h3
      refine ⟨q, ⟨by show (-9223372036854775808 : Int) ≤ (sz * 3); omega, by show (sz * 3) ≤ (9223372036854775807 : Int); omega⟩, q, ⟨by show (-9223372036854775808 : Int) ≤ ((sz * 3) * 4); omega, by show ((sz * 3) * 4) ≤ (9223372036854775807 : Int); omega⟩, .inl ⟨⟨by show (0 : Int) ≤ ((sz * 3) * 4); omega, by show (0 : Int) < 2; omega⟩, ?_⟩⟩
      refine ⟨fun h4 => ?_, fun h4 => ?_⟩
      · replace h4 : (nz.length : Int) ≠ (((sz * 3) * 4) / 2) := h4
        omega
      · replace h4 : ¬ ((nz.length : Int) ≠ (((sz * 3) * 4) / 2)) := h4
        refine ⟨⟨rfl, by decide, by decide⟩, ⟨rfl, rfl, rfl, Nat.le_of_ble_eq_true rfl⟩, .inr ?_⟩
        refine yy q ?_
        refine ⟨by kernel_rfl, ⟨rfl, q, q⟩, q, ww3, q, yy q ?_⟩
        refine ⟨by kernel_rfl, ⟨rfl, q, q⟩, q, ww3, q, yy q ?_⟩
        refine ⟨by kernel_rfl, ⟨rfl, q, q⟩, q, ww3, q, nn q ?_⟩
        refine .inr (yy q ?_)
        refine .inr (yy q ?_)
        refine ⟨by kernel_rfl, q, q, (c 0 q), (c 0 q), q, ww, q, ww, (c 0 q), q, yy q ?_⟩
        refine ⟨by kernel_rfl, q, q, (c 1 q), (c 1 q), q, ww, q, ww, (c 1 q), q, yy q ?_⟩
        refine ⟨by kernel_rfl, q, q, (c 2 q), (c 2 q), q, ww, q, ww, (c 2 q), q, nn q ?_⟩
        refine ⟨q, yy q ?_⟩
        refine .inr (yy q ?_)
        refine ⟨by kernel_rfl, q, q, (c 3 q), (c 3 q), q, ww, q, ww, (c 3 q), q, yy q ?_⟩
        refine ⟨by kernel_rfl, q, q, (c 4 q), (c 4 q), q, ww, q, ww, (c 4 q), q, nn q ?_⟩
        refine ⟨q, yy q ?_⟩
        refine .inr (yy q ?_)
        refine ⟨by kernel_rfl, q, q, (c 5 q), (c 5 q), q, ww, q, ww, (c 5 q), q, nn q ?_⟩
        refine ⟨q, nn q ?_⟩
        refine ⟨⟨rfl, rfl, rfl, Nat.le_of_ble_eq_true rfl⟩, ?_⟩
        exact kr4 (v := .tup [.agg [.int .i64 4, .sl true (.sl .str) (mkD 3 sz.toNat nz)], .int .i64 0]) (by kernel_rfl)
  · replace h2 : sz < 0 := h2
    omega
end Go.Proofs.YtcodgflbafanlaaDoor.S27

namespace Go.Proofs.YtcodgflbafanlaaDoor.S27
open Go Go.Proofs.YtcodgflbafanlaaDoor.Vc Go.Proofs
set_option maxRecDepth 100000
set_option linter.unusedVariables false

set_option maxHeartbeats 2000000 in
theorem bMk5 (sz : Int) (nz : List UInt8) (hz : 0 ≤ sz) (h1 : sz ≤ 4096) (hl : (nz.length : Int) = sz * ((10 : Nat) : Int)) : bodyP (En CRk tys G6 QPrs [1000000, 1000001]) Tryd.f6 [.m 1 .str, .k] [.int .i64 5, .int .i64 sz, .str nz] (.tup [.agg [.int .i64 5, .sl true (.sl .str) (mkD 4 sz.toNat nz)], .int .i64 0]) [] := by
  have c := @cutOk sz nz 10 hz hl
  refine ⟨fun h0 => ?_, fun h0 => absurd h0 (show ¬ ((5 : Int) < 2) by decide)⟩
  refine ⟨fun h1 => ?_, fun h1 => absurd h1 (show ¬ ((12 : Int) < 5) by decide)⟩
  refine ⟨fun h2 => ?_, fun h2 => ?_⟩
  · replace h2 : ¬ (sz < 0) := h2
    refine ⟨fun h3 => ?_, fun h3 => ?_⟩
    · replace h3 : 4096 < sz := h3
      omega
    · replace h3 : ¬ (4096 < sz) := h3
      refine ⟨q, ⟨by show (-9223372036854775808 : Int) ≤ (sz * 4); omega, by show (sz * 4) ≤ (9223372036854775807 : Int); omega⟩, q, ⟨by show (-9223372036854775808 : Int) ≤ ((sz * 4) * 5); omega, by show ((sz * 4) * 5) ≤ (9223372036854775807 : Int); omega⟩, .inl ⟨⟨by show (0 : Int) ≤ ((sz * 4) * 5); omega, by show (0 : Int) < 2; omega⟩, ?_⟩⟩
      refine ⟨fun h4 => ?_, fun h4 => ?_⟩
      · replace h4 : (nz.length : Int) ≠ (((sz * 4) * 5) / 2) := h4
        omega
      · replace h4 : ¬ ((nz.length : Int) ≠ (((sz * 4) * 5) / 2)) := h4
        refine ⟨⟨rfl, by decide, by decide⟩, ⟨rfl, rfl, rfl, Nat.le_of_ble_eq_true rfl⟩, .inr ?_⟩
        refine yy q ?_
        refine ⟨by kernel_rfl, ⟨rfl, by show (0 : Int) ≤ 4; omega, by show 4 ≤ (1000000000 : Int); omega⟩, q, ww3, q, yy q ?_⟩
        refine ⟨by kernel_rfl, ⟨rfl, by show (0 : Int) ≤ 4; omega, by show 4 ≤ (1000000000 : Int); omega⟩, q, ww3, q, yy q ?_⟩
        refine ⟨by kernel_rfl, ⟨rfl, by show (0 : Int) ≤ 4; omega, by show 4 ≤ (1000000000 : Int); omega⟩, q, ww3, q, yy q ?_⟩
        refine ⟨by kernel_rfl, ⟨rfl, by show (0 : Int) ≤ 4; omega, by show 4 ≤ (1000000000 : Int); omega⟩, q, ww3, q, nn q ?_⟩
        refine .inr (yy q ?_)
        refine .inr (yy q ?_)
        refine ⟨by kernel_rfl, q, q, (c 0 q), (c 0 q), q, ww, q, ww, (c 0 q), q, yy q ?_⟩
        refine ⟨by kernel_rfl, q, q, (c 1 q), (c 1 q), q, ww, q, ww, (c 1 q), q, yy q ?_⟩
        refine ⟨by kernel_rfl, q, q, (c 2 q), (c 2 q), q, ww, q, ww, (c 2 q), q, yy q ?_⟩
        refine ⟨by kernel_rfl, q, q, (c 3 q), (c 3 q), q, ww, q, ww, (c 3 q), q, nn q ?_⟩
        refine ⟨q, yy q ?_⟩
        refine .inr (yy q ?_)
        refine ⟨by kernel_rfl, q, q, (c 4 q), (c 4 q), q, ww, q, ww, (c 4 q), q, yy q ?_⟩
        refine ⟨by kernel_rfl, q, q, (c 5 q), (c 5 q), q, ww, q, ww, (c 5 q), q, yy q ?_⟩
        refine ⟨by kernel_rfl, q, q, (c 6 q), (c 6 q), q, ww, q, ww, (c 6 q), q, nn q ?_⟩
        refine ⟨q, yy q ?_⟩
        refine .inr (yy q ?_)
        refine ⟨by kernel_rfl, q, q, (c 7 q), (c 7 q), q, ww, q, ww, (c 7 q), q, yy q ?_⟩
        refine ⟨by kernel_rfl, q, q, (c 8 q), (c 8 q), q, ww, q, ww, (c 8 q), q, nn q ?_⟩
        refine ⟨q, yy q ?_⟩
        refine .inr (yy q ?_)
        refine ⟨by kernel_rfl, q, q, (c 9 q), (c 9 q), q, ww, q, ww, (c 9 q), q, nn q ?_⟩
        refine ⟨q, nn q ?_⟩
        refine ⟨⟨rfl, rfl, rfl, Nat.le_of_ble_eq_true rfl⟩, ?_⟩
        exact kr4 (v := .tup [.agg [.int .i64 5, .sl true (.sl .str) (mkD 4 sz.toNat nz)], .int .i64 0]) (by kernel_rfl)
  · replace h2 : sz < 0 := h2
    omega
end Go.Proofs.YtcodgflbafanlaaDoor.S27

namespace Go.Proofs.YtcodgflbafanlaaDoor.S27
open Go Go.Proofs.YtcodgflbafanlaaDoor.Vc Go.Proofs
set_option maxRecDepth 100000
set_option linter.unusedVariables false

set_option maxHeartbeats 2000000 in
theorem bMk6 (sz : Int) (nz : List UInt8) (hz : 0 ≤ sz) (h1 : sz ≤ 4096) (hl : (nz.length : Int) = sz * ((15 : Nat) : Int)) : bodyP (En CRk tys G6 QPrs [1000000, 1000001]) Tryd.f6 [.m 1 .str, .k] [.int .i64 6, .int .i64 sz, .str nz] (.tup [.agg [.int .i64 6, .sl true (.sl .str) (mkD 5 sz.toNat nz)], .int .i64 0]) [] := by
  have c := @cutOk sz nz 15 hz hl
  refine ⟨fun h0 => ?_, fun h0 => absurd h0 (show ¬ ((6 : Int) < 2) by decide)⟩
  refine ⟨fun h1 => ?_, fun h1 => absurd h1 (show ¬ ((12 : Int) < 6) by decide)⟩
  refine ⟨fun h2 => ?_, fun h2 => ?_⟩
  · replace h2 : ¬ (sz < 0) := h2
    refine ⟨fun h3 => ?_, fun h3 => ?_⟩
    · replace h3 : 4096 < sz := h3
      omega
    · replace h3 : ¬ (4096 < sz) := h3
      refine ⟨q, ⟨by show (-9223372036854775808 : Int) ≤ (sz * 5); omega, by show (sz * 5) ≤ (9223372036854775807 : Int); omega⟩, q, ⟨by show (-9223372036854775808 : Int) ≤ ((sz * 5) * 6); omega, by show ((sz * 5) * 6) ≤ (9223372036854775807 : Int); omega⟩, .inl ⟨⟨by show (0 : Int) ≤ ((sz * 5) * 6); omega, by show (0 : Int) < 2; omega⟩, ?_⟩⟩
      refine ⟨fun h4 => ?_, fun h4 => ?_⟩
      · replace h4 : (nz.length : Int) ≠ (((sz * 5) * 6) / 2) := h4
        omega
      · replace h4 : ¬ ((nz.length : Int) ≠ (((sz * 5) * 6) / 2)) := h4
        refine ⟨⟨rfl, by decide, by decide⟩, ⟨rfl, rfl, rfl, Nat.le_of_ble_eq_true rfl⟩, .inr ?_⟩
        refine yy q ?_
        refine ⟨by kernel_rfl, ⟨rfl, by show (0 : Int) ≤ 5; omega, by show 5 ≤ (1000000000 : Int); omega⟩, q, ww3, q, yy q ?_⟩
        refine ⟨by kernel_rfl, ⟨rfl, by show (0 : Int) ≤ 5; omega, by show 5 ≤ (1000000000 : Int); omega⟩, q, ww3, q, yy q ?_⟩
        refine ⟨by kernel_rfl, ⟨rfl, by show (0 : Int) ≤ 5; omega, by show 5 ≤ (1000000000 : Int); omega⟩, q, ww3, q, yy q ?_⟩
        refine ⟨by kernel_rfl, ⟨rfl, by show (0 : Int) ≤ 5; omega, by show 5 ≤ (1000000000 : Int); omega⟩, q, ww3, q, yy q ?_⟩
        refine ⟨by kernel_rfl, ⟨rfl, by show (0 : Int) ≤ 5; omega, by show 5 ≤ (1000000000 : Int); omega⟩, q, ww3, q, nn q ?_⟩
        refine .inr (yy q ?_)
        refine .inr (yy q ?_)
        refine ⟨by kernel_rfl, q, q, (c 0 q), (c 0 q), q, ww, q, ww, (c 0 q), q, yy q ?_⟩
        refine ⟨by kernel_rfl, q, q, (c 1 q), (c 1 q), q, ww, q, ww, (c 1 q), q, yy q ?_⟩
        refine ⟨by kernel_rfl, q, q, (c 2 q), (c 2 q), q, ww, q, ww, (c 2 q), q, yy q ?_⟩
        refine ⟨by kernel_rfl, q, q, (c 3 q), (c 3 q), q, ww, q, ww, (c 3 q), q, yy q ?_⟩
        refine ⟨by kernel_rfl, q, q, (c 4 q), (c 4 q), q, ww, q, ww, (c 4 q), q, nn q ?_⟩
        refine ⟨q, yy q ?_⟩
        refine .inr (yy q ?_)
        refine ⟨by kernel_rfl, q, q, (c 5 q), (c 5 q), q, ww, q, ww, (c 5 q), q, yy q ?_⟩
        refine ⟨by kernel_rfl, q, q, (c 6 q), (c 6 q), q, ww, q, ww, (c 6 q), q, yy q ?_⟩
        refine ⟨by kernel_rfl, q, q, (c 7 q), (c 7 q), q, ww, q, ww, (c 7 q), q, yy q ?_⟩
        refine ⟨by kernel_rfl, q, q, (c 8 q), (c 8 q), q, ww, q, ww, (c 8 q), q, nn q ?_⟩
        refine ⟨q, yy q ?_⟩
        refine .inr (yy q ?_)
        refine ⟨by kernel_rfl, q, q, (c 9 q), (c 9 q), q, ww, q, ww, (c 9 q), q, yy q ?_⟩
        refine ⟨by kernel_rfl, q, q, (c 10 q), (c 10 q), q, ww, q, ww, (c 10 q), q, yy q ?_⟩
        refine ⟨by kernel_rfl, q, q, (c 11 q), (c 11 q), q, ww, q, ww, (c 11 q), q, nn q ?_⟩
        refine ⟨q, yy q ?_⟩
        refine .inr (yy q ?_)
        refine ⟨by kernel_rfl, q, q, (c 12 q), (c 12 q), q, ww, q, ww, (c 12 q), q, yy q ?_⟩
        refine ⟨by kernel_rfl, q, q, (c 13 q), (c 13 q), q, ww, q, ww, (c 13 q), q, nn q ?_⟩
        refine ⟨q, yy q ?_⟩
        refine .inr (yy q ?_)
        refine ⟨by kernel_rfl, q, q, (c 14 q), (c 14 q), q, ww, q, ww, (c 14 q), q, nn q ?_⟩
        refine ⟨q, nn q ?_⟩
        refine ⟨⟨rfl, rfl, rfl, Nat.le_of_ble_eq_true rfl⟩, ?_⟩
        exact kr4 (v := .tup [.agg [.int .i64 6, .sl true (.sl .str) (mkD 5 sz.toNat nz)], .int .i64 0]) (by kernel_rfl)
  · replace h2 : sz < 0 := h2
    omega
end Go.Proofs.YtcodgflbafanlaaDoor.S27

namespace Go.Proofs.YtcodgflbafanlaaDoor.S27
open Go Go.Proofs.YtcodgflbafanlaaDoor.Vc Go.Proofs
set_option maxRecDepth 100000
set_option linter.unusedVariables false

set_option maxHeartbeats 2000000 in
theorem bMk7 (sz : Int) (nz : List UInt8) (hz : 0 ≤ sz) (h1 : sz ≤ 4096) (hl : (nz.length : Int) = sz * ((21 : Nat) : Int)) : bodyP (En CRk tys G6 QPrs [1000000, 1000001]) Tryd.f6 [.m 1 .str, .k] [.int .i64 7, .int .i64 sz, .str nz] (.tup [.agg [.int .i64 7, .sl true (.sl .str) (mkD 6 sz.toNat nz)], .int .i64 0]) [] := by
  have c := @cutOk sz nz 21 hz hl
  refine ⟨fun h0 => ?_, fun h0 => absurd h0 (show ¬ ((7 : Int) < 2) by decide)⟩
  refine ⟨fun h1 => ?_, fun h1 => absurd h1 (show ¬ ((12 : Int) < 7) by decide)⟩
  refine ⟨fun h2 => ?_, fun h2 => ?_⟩
  · replace h2 : ¬ (sz < 0) := h2
    refine ⟨fun h3 => ?_, fun h3 => ?_⟩
    · replace h3 : 4096 < sz := h3
      omega
    · replace h3 : ¬ (4096 < sz) := h3
      refine ⟨q, ⟨by show (-9223372036854775808 : Int) ≤ (sz * 6); omega, by show (sz * 6) ≤ (9223372036854775807 : Int); omega⟩, q, ⟨by show (-9223372036854775808 : Int) ≤ ((sz * 6) * 7); omega, by show ((sz * 6) * 7) ≤ (9223372036854775807 : Int); omega⟩, .inl ⟨⟨by show (0 : Int) ≤ ((sz * 6) * 7); omega, by show (0 : Int) < 2; omega⟩, ?_⟩⟩
      refine ⟨fun h4 => ?_, fun h4 => ?_⟩
      · replace h4 : (nz.length : Int) ≠ (((sz * 6) * 7) / 2) := h4
        omega
      · replace h4 : ¬ ((nz.length : Int) ≠ (((sz * 6) * 7) / 2)) := h4
        refine ⟨⟨rfl, by decide, by decide⟩, ⟨rfl, rfl, rfl, Nat.le_of_ble_eq_true rfl⟩, .inr ?_⟩
        refine yy q ?_
        refine ⟨by kernel_rfl, ⟨rfl, by show (0 : Int) ≤ 6; omega, by show 6 ≤ (1000000000 : Int); omega⟩, q, ww3, q, yy q ?_⟩
        refine ⟨by kernel_rfl, ⟨rfl, by show (0 : Int) ≤ 6; omega, by show 6 ≤ (1000000000 : Int); omega⟩, q, ww3, q, yy q ?_⟩
        refine ⟨by kernel_rfl, ⟨rfl, by show (0 : Int) ≤ 6; omega, by show 6 ≤ (1000000000 : Int); omega⟩, q, ww3, q, yy q ?_⟩
        refine ⟨by kernel_rfl, ⟨rfl, by show (0 : Int) ≤ 6; omega, by show 6 ≤ (1000000000 : Int); omega⟩, q, ww3, q, yy q ?_⟩
        refine ⟨by kernel_rfl, ⟨rfl, by show (0 : Int) ≤ 6; omega, by show 6 ≤ (1000000000 : Int); omega⟩, q, ww3, q, yy q ?_⟩
        refine ⟨by kernel_rfl, ⟨rfl, by show (0 : Int) ≤ 6; omega, by show 6 ≤ (1000000000 : Int); omega⟩, q, ww3, q, nn q ?_⟩
        refine .inr (yy q ?_)
        refine .inr (yy q ?_)
        refine ⟨by kernel_rfl, q, q, (c 0 q), (c 0 q), q, ww, q, ww, (c 0 q), q, yy q ?_⟩
        refine ⟨by kernel_rfl, q, q, (c 1 q), (c 1 q), q, ww, q, ww, (c 1 q), q, yy q ?_⟩
        refine ⟨by kernel_rfl, q, q, (c 2 q), (c 2 q), q, ww, q, ww, (c 2 q), q, yy q ?_⟩
        refine ⟨by kernel_rfl, q, q, (c 3 q), (c 3 q), q, ww, q, ww, (c 3 q), q, yy q ?_⟩
        refine ⟨by kernel_rfl, q, q, (c 4 q), (c 4 q), q, ww, q, ww, (c 4 q), q, yy q ?_⟩
        refine ⟨by kernel_rfl, q, q, (c 5 q), (c 5 q), q, ww, q, ww, (c 5 q), q, nn q ?_⟩
        refine ⟨q, yy q ?_⟩
        refine .inr (yy q ?_)
        refine ⟨by kernel_rfl, q, q, (c 6 q), (c 6 q), q, ww, q, ww, (c 6 q), q, yy q ?_⟩
        refine ⟨by kernel_rfl, q, q, (c 7 q), (c 7 q), q, ww, q, ww, (c 7 q), q, yy q ?_⟩
        refine ⟨by kernel_rfl, q, q, (c 8 q), (c 8 q), q, ww, q, ww, (c 8 q), q, yy q ?_⟩
        refine ⟨by kernel_rfl, q, q, (c 9 q), (c 9 q), q, ww, q, ww, (c 9 q), q, yy q ?_⟩
        refine ⟨by kernel_rfl, q, q, (c 10 q), (c 10 q), q, ww, q, ww, (c 10 q), q, nn q ?_⟩
        refine ⟨q, yy q ?_⟩
        refine .inr (yy q ?_)
        refine ⟨by kernel_rfl, q, q, (c 11 q), (c 11 q), q, ww, q, ww, (c 11 q), q, yy q ?_⟩
        refine ⟨by kernel_rfl, q, q, (c 12 q), (c 12 q), q, ww, q, ww, (c 12 q), q, yy q ?_⟩
        refine ⟨by kernel_rfl, q, q, (c 13 q), (c 13 q), q, ww, q, ww, (c 13 q), q, yy q ?_⟩
        refine ⟨by kernel_rfl, q, q, (c 14 q), (c 14 q), q, ww, q, ww, (c 14 q), q, nn q ?_⟩
        refine ⟨q, yy q ?_⟩
        refine .inr (yy q ?_)
        refine ⟨by kernel_rfl, q, q, (c 15 q), (c 15 q), q, ww, q, ww, (c 15 q), q, yy q ?_⟩
        refine ⟨by kernel_rfl, q, q, (c 16 q), (c 16 q), q, ww, q, ww, (c 16 q), q, yy q ?_⟩
        refine ⟨by kernel_rfl, q, q, (c 17 q), (c 17 q), q, ww, q, ww, (c 17 q), q, nn q ?_⟩
        refine ⟨q, yy q ?_⟩
        refine .inr (yy q ?_)
        refine ⟨by kernel_rfl, q, q, (c 18 q), (c 18 q), q, ww, q, ww, (c 18 q), q, yy q ?_⟩
        refine ⟨by kernel_rfl, q, q, (c 19 q), (c 19 q), q, ww, q, ww, (c 19 q), q, nn q ?_⟩
        refine ⟨q, yy q ?_⟩
        refine .inr (yy q ?_)
        refine ⟨by kernel_rfl, q, q, (c 20 q), (c 20 q), q, ww, q, ww, (c 20 q), q, nn q ?_⟩
        refine ⟨q, nn q ?_⟩
        refine ⟨⟨rfl, rfl, rfl, Nat.le_of_ble_eq_true rfl⟩, ?_⟩
        exact kr4 (v := .tup [.agg [.int .i64 7, .sl true (.sl .str) (mkD 6 sz.toNat nz)], .int .i64 0]) (by kernel_rfl)
  · replace h2 : sz < 0 := h2
    omega
end Go.Proofs.YtcodgflbafanlaaDoor.S27

namespace Go.Proofs.YtcodgflbafanlaaDoor.S27
open Go Go.Proofs.YtcodgflbafanlaaDoor.Vc Go.Proofs
set_option maxRecDepth 100000
set_option linter.unusedVariables false

set_option maxHeartbeats 2000000 in
theorem bMk8 (sz : Int) (nz : List UInt8) (hz : 0 ≤ sz) (h1 : sz ≤ 4096) (hl : (nz.length : Int) = sz * ((28 : Nat) : Int)) : bodyP (En CRk tys G6 QPrs [1000000, 1000001]) Tryd.f6 [.m 1 .str, .k] [.int .i64 8, .int .i64 sz, .str nz] (.tup [.agg [.int .i64 8, .sl true (.sl .str) (mkD 7 sz.toNat nz)], .int .i64 0]) [] := by
  have c := @cutOk sz nz 28 hz hl
  refine ⟨fun h0 => ?_, fun h0 => absurd h0 (show ¬ ((8 : Int) < 2) by decide)⟩
  refine ⟨fun h1 => ?_, fun h1 => absurd h1 (show ¬ ((12 : Int) < 8) by decide)⟩
  refine ⟨fun h2 => ?_, fun h2 => ?_⟩
  · replace h2 : ¬ (sz < 0) := h2
    refine ⟨fun h3 => ?_, fun h3 => ?_⟩
    · replace h3 : 4096 < sz := h3
      omega
    · replace h3 : ¬ (4096 < sz) := h3
      refine ⟨q, ⟨by show (-9223372036854775808 : Int) ≤ (sz * 7); omega, by show (sz * 7) ≤ (9223372036854775807 : Int); omega⟩, q, ⟨by show (-9223372036854775808 : Int) ≤ ((sz * 7) * 8); omega, by show ((sz * 7) * 8) ≤ (9223372036854775807 : Int); omega⟩, .inl ⟨⟨by show (0 : Int) ≤ ((sz * 7) * 8); omega, by show (0 : Int) < 2; omega⟩, ?_⟩⟩
      refine ⟨fun h4 => ?_, fun h4 => ?_⟩
      · replace h4 : (nz.length : Int) ≠ (((sz * 7) * 8) / 2) := h4
        omega
      · replace h4 : ¬ ((nz.length : Int) ≠ (((sz * 7) * 8) / 2)) := h4
        refine ⟨⟨rfl, by decide, by decide⟩, ⟨rfl, rfl, rfl, Nat.le_of_ble_eq_true rfl⟩, .inr ?_⟩
        refine yy q ?_
        refine ⟨by kernel_rfl, ⟨rfl, by show (0 : Int) ≤ 7; omega, by show 7 ≤ (1000000000 : Int); omega⟩, q, ww3, q, yy q ?_⟩
        refine ⟨by kernel_rfl, ⟨rfl, by show (0 : Int) ≤ 7; omega, by show 7 ≤ (1000000000 : Int); omega⟩, q, ww3, q, yy q ?_⟩
        refine ⟨by kernel_rfl, ⟨rfl, by show (0 : Int) ≤ 7; omega, by show 7 ≤ (1000000000 : Int); omega⟩, q, ww3, q, yy q ?_⟩
        refine ⟨by kernel_rfl, ⟨rfl, by show (0 : Int) ≤ 7; omega, by show 7 ≤ (1000000000 : Int); omega⟩, q, ww3, q, yy q ?_⟩
        refine ⟨by kernel_rfl, ⟨rfl, by show (0 : Int) ≤ 7; omega, by show 7 ≤ (1000000000 : Int); omega⟩, q, ww3, q, yy q ?_⟩
        refine ⟨by kernel_rfl, ⟨rfl, by show (0 : Int) ≤ 7; omega, by show 7 ≤ (1000000000 : Int); omega⟩, q, ww3, q, yy q ?_⟩
        refine ⟨by kernel_rfl, ⟨rfl, by show (0 : Int) ≤ 7; omega, by show 7 ≤ (1000000000 : Int); omega⟩, q, ww3, q, nn q ?_⟩
        refine .inr (yy q ?_)
        refine .inr (yy q ?_)
        refine ⟨by kernel_rfl, q, q, (c 0 q), (c 0 q), q, ww, q, ww, (c 0 q), q, yy q ?_⟩
        refine ⟨by kernel_rfl, q, q, (c 1 q), (c 1 q), q, ww, q, ww, (c 1 q), q, yy q ?_⟩
        refine ⟨by kernel_rfl, q, q, (c 2 q), (c 2 q), q, ww, q, ww, (c 2 q), q, yy q ?_⟩
        refine ⟨by kernel_rfl, q, q, (c 3 q), (c 3 q), q, ww, q, ww, (c 3 q), q, yy q ?_⟩
        refine ⟨by kernel_rfl, q, q, (c 4 q), (c 4 q), q, ww, q, ww, (c 4 q), q, yy q ?_⟩
        refine ⟨by kernel_rfl, q, q, (c 5 q), (c 5 q), q, ww, q, ww, (c 5 q), q, yy q ?_⟩
        refine ⟨by kernel_rfl, q, q, (c 6 q), (c 6 q), q, ww, q, ww, (c 6 q), q, nn q ?_⟩
        refine ⟨q, yy q ?_⟩
        refine .inr (yy q ?_)
        refine ⟨by kernel_rfl, q, q, (c 7 q), (c 7 q), q, ww, q, ww, (c 7 q), q, yy q ?_⟩
        refine ⟨by kernel_rfl, q, q, (c 8 q), (c 8 q), q, ww, q, ww, (c 8 q), q, yy q ?_⟩
        refine ⟨by kernel_rfl, q, q, (c 9 q), (c 9 q), q, ww, q, ww, (c 9 q), q, yy q ?_⟩
        refine ⟨by kernel_rfl, q, q, (c 10 q), (c 10 q), q, ww, q, ww, (c 10 q), q, yy q ?_⟩
        refine ⟨by kernel_rfl, q, q, (c 11 q), (c 11 q), q, ww, q, ww, (c 11 q), q, yy q ?_⟩
        refine ⟨by kernel_rfl, q, q, (c 12 q), (c 12 q), q, ww, q, ww, (c 12 q), q, nn q ?_⟩
        refine ⟨q, yy q ?_⟩
        refine .inr (yy q ?_)
        refine ⟨by kernel_rfl, q, q, (c 13 q), (c 13 q), q, ww, q, ww, (c 13 q), q, yy q ?_⟩
        refine ⟨by kernel_rfl, q, q, (c 14 q), (c 14 q), q, ww, q, ww, (c 14 q), q, yy q ?_⟩
        refine ⟨by kernel_rfl, q, q, (c 15 q), (c 15 q), q, ww, q, ww, (c 15 q), q, yy q ?_⟩
        refine ⟨by kernel_rfl, q, q, (c 16 q), (c 16 q), q, ww, q, ww, (c 16 q), q, yy q ?_⟩
        refine ⟨by kernel_rfl, q, q, (c 17 q), (c 17 q), q, ww, q, ww, (c 17 q), q, nn q ?_⟩
        refine ⟨q, yy q ?_⟩
        refine .inr (yy q ?_)
        refine ⟨by kernel_rfl, q, q, (c 18 q), (c 18 q), q, ww, q, ww, (c 18 q), q, yy q ?_⟩
        refine ⟨by kernel_rfl, q, q, (c 19 q), (c 19 q), q, ww, q, ww, (c 19 q), q, yy q ?_⟩
        refine ⟨by kernel_rfl, q, q, (c 20 q), (c 20 q), q, ww, q, ww, (c 20 q), q, yy q ?_⟩
        refine ⟨by kernel_rfl, q, q, (c 21 q), (c 21 q), q, ww, q, ww, (c 21 q), q, nn q ?_⟩
        refine ⟨q, yy q ?_⟩
        refine .inr (yy q ?_)
        refine ⟨by kernel_rfl, q, q, (c 22 q), (c 22 q), q, ww, q, ww, (c 22 q), q, yy q ?_⟩
        refine ⟨by kernel_rfl, q, q, (c 23 q), (c 23 q), q, ww, q, ww, (c 23 q), q, yy q ?_⟩
        refine ⟨by kernel_rfl, q, q, (c 24 q), (c 24 q), q, ww, q, ww, (c 24 q), q, nn q ?_⟩
        refine ⟨q, yy q ?_⟩
        refine .inr (yy q ?_)
        refine ⟨by kernel_rfl, q, q, (c 25 q), (c 25 q), q, ww, q, ww, (c 25 q), q, yy q ?_⟩
        refine ⟨by kernel_rfl, q, q, (c 26 q), (c 26 q), q, ww, q, ww, (c 26 q), q, nn q ?_⟩
        refine ⟨q, yy q ?_⟩
        refine .inr (yy q ?_)
        refine ⟨by kernel_rfl, q, q, (c 27 q), (c 27 q), q, ww, q, ww, (c 27 q), q, nn q ?_⟩
        refine ⟨q, nn q ?_⟩
        refine ⟨⟨rfl, rfl, rfl, Nat.le_of_ble_eq_true rfl⟩, ?_⟩
        exact kr4 (v := .tup [.agg [.int .i64 8, .sl true (.sl .str) (mkD 7 sz.toNat nz)], .int .i64 0]) (by kernel_rfl)
  · replace h2 : sz < 0 := h2
    omega
end Go.Proofs.YtcodgflbafanlaaDoor.S27

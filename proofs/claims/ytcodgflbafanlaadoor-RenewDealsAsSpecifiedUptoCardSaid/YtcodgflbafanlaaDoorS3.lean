/- Texts of this claim: S27d.N0, S27d.N1, S27d.N2, S27d.N3, S27d.N4, S27d.N5, S27d.N6, S27d.N7. -/
import Derived.Test.YtcodgflbafanlaaDoorS2
set_option linter.unusedVariables false
set_option linter.unusedSimpArgs false
namespace Go.Proofs.YtcodgflbafanlaaDoor.S27
open Go Go.Proofs.YtcodgflbafanlaaDoor.Vc Go.Proofs
set_option maxRecDepth 100000
set_option linter.unusedVariables false

set_option maxHeartbeats 2000000 in
theorem bRk0 (nd : Int) (sz : Int) (nz : List UInt8) (hn : nd < 2 ∨ 12 < nd ∨ sz < 0 ∨ 4096 < sz) : bodyP (En CRfl tys G6 QPrs [1000000, 1000001]) Tryd.f7 [.k, .n .str, .k] [.int .i64 nd, .int .i64 sz, .str nz] (.agg [.int .i64 0, .sl true (.sl .str) [], .int .i64 3]) [] := by
  refine ⟨fun h0 => ?_, fun h0 => ?_⟩
  · replace h0 : ¬ (nd < 2) := h0
    refine ⟨fun h1 => ?_, fun h1 => ?_⟩
    · replace h1 : ¬ (12 < nd) := h1
      refine ⟨fun h2 => ?_, fun h2 => ?_⟩
      · replace h2 : ¬ (sz < 0) := h2
        refine ⟨fun h3 => ?_, fun h3 => ?_⟩
        · replace h3 : 4096 < sz := h3
          refine ⟨⟨rfl, rfl, rfl, Nat.le_of_ble_eq_true rfl⟩, ?_⟩
          exact kr4 (v := .agg [.int .i64 0, .sl true (.sl .str) [], .int .i64 3]) (by kernel_rfl)
        · replace h3 : ¬ (4096 < sz) := h3
          omega
      · replace h2 : sz < 0 := h2
        refine ⟨⟨rfl, rfl, rfl, Nat.le_of_ble_eq_true rfl⟩, ?_⟩
        exact kr4 (v := .agg [.int .i64 0, .sl true (.sl .str) [], .int .i64 3]) (by kernel_rfl)
    · replace h1 : 12 < nd := h1
      refine ⟨⟨rfl, rfl, rfl, Nat.le_of_ble_eq_true rfl⟩, ?_⟩
      exact kr4 (v := .agg [.int .i64 0, .sl true (.sl .str) [], .int .i64 3]) (by kernel_rfl)
  · replace h0 : nd < 2 := h0
    refine ⟨⟨rfl, rfl, rfl, Nat.le_of_ble_eq_true rfl⟩, ?_⟩
    exact kr4 (v := .agg [.int .i64 0, .sl true (.sl .str) [], .int .i64 3]) (by kernel_rfl)
set_option maxHeartbeats 2000000 in
theorem bRkN (nd : Int) (sz : Int) (nz : List UInt8) (g2 : 2 ≤ nd) (g12 : nd ≤ 12) (hz : 0 ≤ sz) (hs4 : sz ≤ 4096) (hb1 : 0 ≤ sz * (nd - 1) ∧ sz * (nd - 1) ≤ 45056) (hb2 : 0 ≤ (sz * (nd - 1)) * ((nd - 1) + 1) ∧ (sz * (nd - 1)) * ((nd - 1) + 1) ≤ 540672) (hl : ¬ (nz.length : Int) = ((sz * (nd - 1)) * ((nd - 1) + 1)) / 2) : bodyP (En CRfl tys G6 QPrs [1000000, 1000001]) Tryd.f7 [.k, .n .str, .k] [.int .i64 nd, .int .i64 sz, .str nz] (.agg [.int .i64 0, .sl true (.sl .str) [], .int .i64 1]) [] := by
  refine ⟨fun h0 => ?_, fun h0 => ?_⟩
  · replace h0 : ¬ (nd < 2) := h0
    refine ⟨fun h1 => ?_, fun h1 => ?_⟩
    · replace h1 : ¬ (12 < nd) := h1
      refine ⟨fun h2 => ?_, fun h2 => ?_⟩
      · replace h2 : ¬ (sz < 0) := h2
        refine ⟨fun h3 => ?_, fun h3 => ?_⟩
        · replace h3 : 4096 < sz := h3
          omega
        · replace h3 : ¬ (4096 < sz) := h3
          refine ⟨⟨by show (-9223372036854775808 : Int) ≤ (nd - 1); omega, by show (nd - 1) ≤ (9223372036854775807 : Int); omega⟩, ⟨by show (-9223372036854775808 : Int) ≤ (sz * (nd - 1)); omega, by show (sz * (nd - 1)) ≤ (9223372036854775807 : Int); omega⟩, ⟨by show (-9223372036854775808 : Int) ≤ ((nd - 1) + 1); omega, by show ((nd - 1) + 1) ≤ (9223372036854775807 : Int); omega⟩, ⟨by show (-9223372036854775808 : Int) ≤ ((sz * (nd - 1)) * ((nd - 1) + 1)); omega, by show ((sz * (nd - 1)) * ((nd - 1) + 1)) ≤ (9223372036854775807 : Int); omega⟩, .inl ⟨⟨by show (0 : Int) ≤ ((sz * (nd - 1)) * ((nd - 1) + 1)); omega, by show (0 : Int) < 2; omega⟩, ?_⟩⟩
          refine ⟨fun h4 => ?_, fun h4 => ?_⟩
          · replace h4 : (nz.length : Int) ≠ (((sz * (nd - 1)) * ((nd - 1) + 1)) / 2) := h4
            refine ⟨⟨rfl, rfl, rfl, Nat.le_of_ble_eq_true rfl⟩, ?_⟩
            exact kr4 (v := .agg [.int .i64 0, .sl true (.sl .str) [], .int .i64 1]) (by kernel_rfl)
          · replace h4 : ¬ ((nz.length : Int) ≠ (((sz * (nd - 1)) * ((nd - 1) + 1)) / 2)) := h4
            exact absurd (Classical.not_not.1 h4) hl
      · replace h2 : sz < 0 := h2
        omega
    · replace h1 : 12 < nd := h1
      omega
  · replace h0 : nd < 2 := h0
    omega
end Go.Proofs.YtcodgflbafanlaaDoor.S27

namespace Go.Proofs.YtcodgflbafanlaaDoor.S27
open Go Go.Proofs.YtcodgflbafanlaaDoor.Vc Go.Proofs
set_option maxRecDepth 100000
set_option linter.unusedVariables false

set_option maxHeartbeats 2000000 in
theorem bRk2 (sz : Int) (nz : List UInt8) (hz : 0 ≤ sz) (hs4 : sz ≤ 4096) (hl : (nz.length : Int) = sz * ((1 : Nat) : Int)) : bodyP (En CRfl tys G6 QPrs [1000000, 1000001]) Tryd.f7 [.k, .n .str, .k] [.int .i64 2, .int .i64 sz, .str nz] (.agg [.int .i64 2, .sl true (.sl .str) (mkR 1 sz nz), .int .i64 0]) [] := by
  have c := @frC sz nz 1 hz hl
  have f := @frR sz hz hs4
  refine ⟨fun h0 => ?_, fun h0 => absurd h0 (show ¬ ((2 : Int) < 2) by decide)⟩
  refine ⟨fun h1 => ?_, fun h1 => absurd h1 (show ¬ ((12 : Int) < 2) by decide)⟩
  refine ⟨fun h2 => ?_, fun h2 => ?_⟩
  · replace h2 : ¬ (sz < 0) := h2
    refine ⟨fun h3 => ?_, fun h3 => ?_⟩
    · replace h3 : 4096 < sz := h3
      omega
    · replace h3 : ¬ (4096 < sz) := h3
      refine ⟨q, ⟨by show (-9223372036854775808 : Int) ≤ (sz * 1); omega, by show (sz * 1) ≤ (9223372036854775807 : Int); omega⟩, q, ⟨by show (-9223372036854775808 : Int) ≤ ((sz * 1) * 2); omega, by show ((sz * 1) * 2) ≤ (9223372036854775807 : Int); omega⟩, .inl ⟨⟨by show (0 : Int) ≤ ((sz * 1) * 2); omega, by show (0 : Int) < 2; omega⟩, ?_⟩⟩
      refine ⟨fun h4 => ?_, fun h4 => ?_⟩
      · replace h4 : (nz.length : Int) ≠ (((sz * 1) * 2) / 2) := h4
        omega
      · replace h4 : ¬ ((nz.length : Int) ≠ (((sz * 1) * 2) / 2)) := h4
        refine ⟨⟨rfl, rfl, rfl, Nat.le_of_ble_eq_true rfl⟩, .inr ?_⟩
        refine yy q ?_
        refine ⟨by kernel_rfl, ⟨rfl, by show (0 : Int) ≤ 1; omega, by show 1 ≤ (1000000000 : Int); omega⟩, ww3, ww3, q, nn q ?_⟩
        refine .inr (yy q ?_)
        refine .inr (yy q ?_)
        refine ⟨(f 1 q), (c 0 q), q, q, ww, q, q, ww, (f 1 q), q, nn q ?_⟩
        refine ⟨q, nn q ?_⟩
        refine ⟨⟨rfl, rfl, rfl, Nat.le_of_ble_eq_true rfl⟩, ?_⟩
        exact kr4 (v := .agg [.int .i64 2, .sl true (.sl .str) (mkR 1 sz nz), .int .i64 0]) (by kernel_rfl)
  · replace h2 : sz < 0 := h2
    omega
end Go.Proofs.YtcodgflbafanlaaDoor.S27

namespace Go.Proofs.YtcodgflbafanlaaDoor.S27
open Go Go.Proofs.YtcodgflbafanlaaDoor.Vc Go.Proofs
set_option maxRecDepth 100000
set_option linter.unusedVariables false

set_option maxHeartbeats 2000000 in
theorem bRk3 (sz : Int) (nz : List UInt8) (hz : 0 ≤ sz) (hs4 : sz ≤ 4096) (hl : (nz.length : Int) = sz * ((3 : Nat) : Int)) : bodyP (En CRfl tys G6 QPrs [1000000, 1000001]) Tryd.f7 [.k, .n .str, .k] [.int .i64 3, .int .i64 sz, .str nz] (.agg [.int .i64 3, .sl true (.sl .str) (mkR 2 sz nz), .int .i64 0]) [] := by
  have c := @frC sz nz 3 hz hl
  have f := @frR sz hz hs4
  refine ⟨fun h0 => ?_, fun h0 => absurd h0 (show ¬ ((3 : Int) < 2) by decide)⟩
  refine ⟨fun h1 => ?_, fun h1 => absurd h1 (show ¬ ((12 : Int) < 3) by decide)⟩
  refine ⟨fun h2 => ?_, fun h2 => ?_⟩
  · replace h2 : ¬ (sz < 0) := h2
    refine ⟨fun h3 => ?_, fun h3 => ?_⟩
    · replace h3 : 4096 < sz := h3
      omega
    · replace h3 : ¬ (4096 < sz) := h3
      refine ⟨q, ⟨by show (-9223372036854775808 : Int) ≤ (sz * 2); omega, by show (sz * 2) ≤ (9223372036854775807 : Int); omega⟩, q, ⟨by show (-9223372036854775808 : Int) ≤ ((sz * 2) * 3); omega, by show ((sz * 2) * 3) ≤ (9223372036854775807 : Int); omega⟩, .inl ⟨⟨by show (0 : Int) ≤ ((sz * 2) * 3); omega, by show (0 : Int) < 2; omega⟩, ?_⟩⟩
      refine ⟨fun h4 => ?_, fun h4 => ?_⟩
      · replace h4 : (nz.length : Int) ≠ (((sz * 2) * 3) / 2) := h4
        omega
      · replace h4 : ¬ ((nz.length : Int) ≠ (((sz * 2) * 3) / 2)) := h4
        refine ⟨⟨rfl, rfl, rfl, Nat.le_of_ble_eq_true rfl⟩, .inr ?_⟩
        refine yy q ?_
        refine ⟨by kernel_rfl, ⟨rfl, by show (0 : Int) ≤ 2; omega, by show 2 ≤ (1000000000 : Int); omega⟩, ww3, ww3, q, yy q ?_⟩
        refine ⟨by kernel_rfl, ⟨rfl, by show (0 : Int) ≤ 2; omega, by show 2 ≤ (1000000000 : Int); omega⟩, ⟨rfl, rfl, rfl, rfl, rfl, rfl⟩, ww3, q, nn q ?_⟩
        refine .inr (yy q ?_)
        refine .inr (yy q ?_)
        refine ⟨(f 1 q), (c 0 q), q, q, ww, q, q, ww, (f 1 q), q, yy q ?_⟩
        refine ⟨(f 2 q), (c 1 q), q, q, ww, q, q, ww, (f 2 q), q, nn q ?_⟩
        refine ⟨q, yy q ?_⟩
        refine .inr (yy q ?_)
        refine ⟨(f 3 q), (c 2 q), q, q, ww, q, q, ww, (f 3 q), q, nn q ?_⟩
        refine ⟨q, nn q ?_⟩
        refine ⟨⟨rfl, rfl, rfl, Nat.le_of_ble_eq_true rfl⟩, ?_⟩
        exact kr4 (v := .agg [.int .i64 3, .sl true (.sl .str) (mkR 2 sz nz), .int .i64 0]) (by kernel_rfl)
  · replace h2 : sz < 0 := h2
    omega
end Go.Proofs.YtcodgflbafanlaaDoor.S27

namespace Go.Proofs.YtcodgflbafanlaaDoor.S27
open Go Go.Proofs.YtcodgflbafanlaaDoor.Vc Go.Proofs
set_option maxRecDepth 100000
set_option linter.unusedVariables false

set_option maxHeartbeats 2000000 in
theorem bRk4 (sz : Int) (nz : List UInt8) (hz : 0 ≤ sz) (hs4 : sz ≤ 4096) (hl : (nz.length : Int) = sz * ((6 : Nat) : Int)) : bodyP (En CRfl tys G6 QPrs [1000000, 1000001]) Tryd.f7 [.k, .n .str, .k] [.int .i64 4, .int .i64 sz, .str nz] (.agg [.int .i64 4, .sl true (.sl .str) (mkR 3 sz nz), .int .i64 0]) [] := by
  have c := @frC sz nz 6 hz hl
  have f := @frR sz hz hs4
  refine ⟨fun h0 => ?_, fun h0 => absurd h0 (show ¬ ((4 : Int) < 2) by decide)⟩
  refine ⟨fun h1 => ?_, fun h1 => absurd h1 (show ¬ ((12 : Int) < 4) by decide)⟩
  refine ⟨fun h2 => ?_, fun h2 => ?_⟩
  · replace h2 : ¬ (sz < 0) := h2
    refine ⟨fun h3 => ?_, fun h3 => ?_⟩
    · replace h3 : 4096 < sz := h3
      omega
    · replace h3 : ¬ (4096 < sz) := h3
      refine ⟨q, ⟨by show (-9223372036854775808 : Int) ≤ (sz * 3); omega, by show (sz * 3) ≤ (9223372036854775807 : Int); omega⟩, q, ⟨by show (-9223372036854775808 : Int) ≤ ((sz * 3) * 4); omega, by show ((sz * 3) * 4) ≤ (9223372036854775807 : Int); omega⟩, .inl ⟨⟨by show (0 : Int) ≤ ((sz * 3) * 4); omega, by show (0 : Int) < 2; omega⟩, ?_⟩⟩
      refine ⟨fun h4 => ?_, fun h4 => ?_⟩
      · replace h4 : (nz.length : Int) ≠ (((sz * 3) * 4) / 2) := h4
        omega
      · replace h4 : ¬ ((nz.length : Int) ≠ (((sz * 3) * 4) / 2)) := h4
        refine ⟨⟨rfl, rfl, rfl, Nat.le_of_ble_eq_true rfl⟩, .inr ?_⟩
        refine yy q ?_
        refine ⟨by kernel_rfl, ⟨rfl, q, q⟩, ww3, ww3, q, yy q ?_⟩
        refine ⟨by kernel_rfl, ⟨rfl, q, q⟩, ⟨rfl, rfl, rfl, rfl, rfl, rfl⟩, ww3, q, yy q ?_⟩
        refine ⟨by kernel_rfl, ⟨rfl, q, q⟩, ⟨rfl, rfl, rfl, rfl, rfl, rfl⟩, ww3, q, nn q ?_⟩
        refine .inr (yy q ?_)
        refine .inr (yy q ?_)
        refine ⟨(f 1 q), (c 0 q), q, q, ww, q, q, ww, (f 1 q), q, yy q ?_⟩
        refine ⟨(f 2 q), (c 1 q), q, q, ww, q, q, ww, (f 2 q), q, yy q ?_⟩
        refine ⟨(f 3 q), (c 2 q), q, q, ww, q, q, ww, (f 3 q), q, nn q ?_⟩
        refine ⟨q, yy q ?_⟩
        refine .inr (yy q ?_)
        refine ⟨(f 4 q), (c 3 q), q, q, ww, q, q, ww, (f 4 q), q, yy q ?_⟩
        refine ⟨(f 5 q), (c 4 q), q, q, ww, q, q, ww, (f 5 q), q, nn q ?_⟩
        refine ⟨q, yy q ?_⟩
        refine .inr (yy q ?_)
        refine ⟨(f 6 q), (c 5 q), q, q, ww, q, q, ww, (f 6 q), q, nn q ?_⟩
        refine ⟨q, nn q ?_⟩
        refine ⟨⟨rfl, rfl, rfl, Nat.le_of_ble_eq_true rfl⟩, ?_⟩
        exact kr4 (v := .agg [.int .i64 4, .sl true (.sl .str) (mkR 3 sz nz), .int .i64 0]) (by kernel_rfl)
  · replace h2 : sz < 0 := h2
    omega
end Go.Proofs.YtcodgflbafanlaaDoor.S27

namespace Go.Proofs.YtcodgflbafanlaaDoor.S27
open Go Go.Proofs.YtcodgflbafanlaaDoor.Vc Go.Proofs
set_option maxRecDepth 100000
set_option linter.unusedVariables false

set_option maxHeartbeats 2000000 in
theorem bRk5 (sz : Int) (nz : List UInt8) (hz : 0 ≤ sz) (hs4 : sz ≤ 4096) (hl : (nz.length : Int) = sz * ((10 : Nat) : Int)) : bodyP (En CRfl tys G6 QPrs [1000000, 1000001]) Tryd.f7 [.k, .n .str, .k] [.int .i64 5, .int .i64 sz, .str nz] (.agg [.int .i64 5, .sl true (.sl .str) (mkR 4 sz nz), .int .i64 0]) [] := by
  have c := @frC sz nz 10 hz hl
  have f := @frR sz hz hs4
  refine ⟨fun h0 => ?_, fun h0 => absurd h0 (show ¬ ((5 : Int) < 2) by decide)⟩
  refine ⟨fun h1 => ?_, fun h1 => absurd h1 (show ¬ ((12 : Int) < 5) by decide)⟩
  refine ⟨fun h2 => ?_, fun h2 => ?_⟩
  · replace h2 : ¬ (sz < 0) := h2
    refine ⟨fun h3 => ?_, fun h3 => ?_⟩
    · replace h3 : 4096 < sz := h3
      omega
    · replace h3 : ¬ (4096 < sz) := h3
      refine ⟨q, ⟨by show (-9223372036854775808 : Int) ≤ (sz * 4); omega, by show (sz * 4) ≤ (9223372036854775807 : Int); omega⟩, q, ⟨by show (-9223372036854775808 : Int) ≤ ((sz * 4) * 5); omega, by show ((sz * 4) * 5) ≤ (9223372036854775807 : Int); omega⟩, .inl ⟨⟨by show (0 : Int) ≤ ((sz * 4) * 5); omega, by show (0 : Int) < 2; omega⟩, ?_⟩⟩
      refine ⟨fun h4 => ?_, fun h4 => ?_⟩
      · replace h4 : (nz.length : Int) ≠ (((sz * 4) * 5) / 2) := h4
        omega
      · replace h4 : ¬ ((nz.length : Int) ≠ (((sz * 4) * 5) / 2)) := h4
        refine ⟨⟨rfl, rfl, rfl, Nat.le_of_ble_eq_true rfl⟩, .inr ?_⟩
        refine yy q ?_
        refine ⟨by kernel_rfl, ⟨rfl, by show (0 : Int) ≤ 4; omega, by show 4 ≤ (1000000000 : Int); omega⟩, ww3, ww3, q, yy q ?_⟩
        refine ⟨by kernel_rfl, ⟨rfl, by show (0 : Int) ≤ 4; omega, by show 4 ≤ (1000000000 : Int); omega⟩, ⟨rfl, rfl, rfl, rfl, rfl, rfl⟩, ww3, q, yy q ?_⟩
        refine ⟨by kernel_rfl, ⟨rfl, by show (0 : Int) ≤ 4; omega, by show 4 ≤ (1000000000 : Int); omega⟩, ⟨rfl, rfl, rfl, rfl, rfl, rfl⟩, ww3, q, yy q ?_⟩
        refine ⟨by kernel_rfl, ⟨rfl, by show (0 : Int) ≤ 4; omega, by show 4 ≤ (1000000000 : Int); omega⟩, ⟨rfl, rfl, rfl, rfl, rfl, rfl⟩, ww3, q, nn q ?_⟩
        refine .inr (yy q ?_)
        refine .inr (yy q ?_)
        refine ⟨(f 1 q), (c 0 q), q, q, ww, q, q, ww, (f 1 q), q, yy q ?_⟩
        refine ⟨(f 2 q), (c 1 q), q, q, ww, q, q, ww, (f 2 q), q, yy q ?_⟩
        refine ⟨(f 3 q), (c 2 q), q, q, ww, q, q, ww, (f 3 q), q, yy q ?_⟩
        refine ⟨(f 4 q), (c 3 q), q, q, ww, q, q, ww, (f 4 q), q, nn q ?_⟩
        refine ⟨q, yy q ?_⟩
        refine .inr (yy q ?_)
        refine ⟨(f 5 q), (c 4 q), q, q, ww, q, q, ww, (f 5 q), q, yy q ?_⟩
        refine ⟨(f 6 q), (c 5 q), q, q, ww, q, q, ww, (f 6 q), q, yy q ?_⟩
        refine ⟨(f 7 q), (c 6 q), q, q, ww, q, q, ww, (f 7 q), q, nn q ?_⟩
        refine ⟨q, yy q ?_⟩
        refine .inr (yy q ?_)
        refine ⟨(f 8 q), (c 7 q), q, q, ww, q, q, ww, (f 8 q), q, yy q ?_⟩
        refine ⟨(f 9 q), (c 8 q), q, q, ww, q, q, ww, (f 9 q), q, nn q ?_⟩
        refine ⟨q, yy q ?_⟩
        refine .inr (yy q ?_)
        refine ⟨(f 10 q), (c 9 q), q, q, ww, q, q, ww, (f 10 q), q, nn q ?_⟩
        refine ⟨q, nn q ?_⟩
        refine ⟨⟨rfl, rfl, rfl, Nat.le_of_ble_eq_true rfl⟩, ?_⟩
        exact kr4 (v := .agg [.int .i64 5, .sl true (.sl .str) (mkR 4 sz nz), .int .i64 0]) (by kernel_rfl)
  · replace h2 : sz < 0 := h2
    omega
end Go.Proofs.YtcodgflbafanlaaDoor.S27

namespace Go.Proofs.YtcodgflbafanlaaDoor.S27
open Go Go.Proofs.YtcodgflbafanlaaDoor.Vc Go.Proofs
set_option maxRecDepth 100000
set_option linter.unusedVariables false

set_option maxHeartbeats 2000000 in
theorem bRk6 (sz : Int) (nz : List UInt8) (hz : 0 ≤ sz) (hs4 : sz ≤ 4096) (hl : (nz.length : Int) = sz * ((15 : Nat) : Int)) : bodyP (En CRfl tys G6 QPrs [1000000, 1000001]) Tryd.f7 [.k, .n .str, .k] [.int .i64 6, .int .i64 sz, .str nz] (.agg [.int .i64 6, .sl true (.sl .str) (mkR 5 sz nz), .int .i64 0]) [] := by
  have c := @frC sz nz 15 hz hl
  have f := @frR sz hz hs4
  refine ⟨fun h0 => ?_, fun h0 => absurd h0 (show ¬ ((6 : Int) < 2) by decide)⟩
  refine ⟨fun h1 => ?_, fun h1 => absurd h1 (show ¬ ((12 : Int) < 6) by decide)⟩
  refine ⟨fun h2 => ?_, fun h2 => ?_⟩
  · replace h2 : ¬ (sz < 0) := h2
    refine ⟨fun h3 => ?_, fun h3 => ?_⟩
    · replace h3 : 4096 < sz := h3
      omega
    · replace h3 : ¬ (4096 < sz) := h3
      refine ⟨q, ⟨by show (-9223372036854775808 : Int) ≤ (sz * 5); omega, by show (sz * 5) ≤ (9223372036854775807 : Int); omega⟩, q, ⟨by show (-9223372036854775808 : Int) ≤ ((sz * 5) * 6); omega, by show ((sz * 5) * 6) ≤ (9223372036854775807 : Int); omega⟩, .inl ⟨⟨by show (0 : Int) ≤ ((sz * 5) * 6); omega, by show (0 : Int) < 2; omega⟩, ?_⟩⟩
      refine ⟨fun h4 => ?_, fun h4 => ?_⟩
      · replace h4 : (nz.length : Int) ≠ (((sz * 5) * 6) / 2) := h4
        omega
      · replace h4 : ¬ ((nz.length : Int) ≠ (((sz * 5) * 6) / 2)) := h4
        refine ⟨⟨rfl, rfl, rfl, Nat.le_of_ble_eq_true rfl⟩, .inr ?_⟩
        refine yy q ?_
        refine ⟨by kernel_rfl, ⟨rfl, by show (0 : Int) ≤ 5; omega, by show 5 ≤ (1000000000 : Int); omega⟩, ww3, ww3, q, yy q ?_⟩
        refine ⟨by kernel_rfl, ⟨rfl, by show (0 : Int) ≤ 5; omega, by show 5 ≤ (1000000000 : Int); omega⟩, ⟨rfl, rfl, rfl, rfl, rfl, rfl⟩, ww3, q, yy q ?_⟩
        refine ⟨by kernel_rfl, ⟨rfl, by show (0 : Int) ≤ 5; omega, by show 5 ≤ (1000000000 : Int); omega⟩, ⟨rfl, rfl, rfl, rfl, rfl, rfl⟩, ww3, q, yy q ?_⟩
        refine ⟨by kernel_rfl, ⟨rfl, by show (0 : Int) ≤ 5; omega, by show 5 ≤ (1000000000 : Int); omega⟩, ⟨rfl, rfl, rfl, rfl, rfl, rfl⟩, ww3, q, yy q ?_⟩
        refine ⟨by kernel_rfl, ⟨rfl, by show (0 : Int) ≤ 5; omega, by show 5 ≤ (1000000000 : Int); omega⟩, ⟨rfl, rfl, rfl, rfl, rfl, rfl⟩, ww3, q, nn q ?_⟩
        refine .inr (yy q ?_)
        refine .inr (yy q ?_)
        refine ⟨(f 1 q), (c 0 q), q, q, ww, q, q, ww, (f 1 q), q, yy q ?_⟩
        refine ⟨(f 2 q), (c 1 q), q, q, ww, q, q, ww, (f 2 q), q, yy q ?_⟩
        refine ⟨(f 3 q), (c 2 q), q, q, ww, q, q, ww, (f 3 q), q, yy q ?_⟩
        refine ⟨(f 4 q), (c 3 q), q, q, ww, q, q, ww, (f 4 q), q, yy q ?_⟩
        refine ⟨(f 5 q), (c 4 q), q, q, ww, q, q, ww, (f 5 q), q, nn q ?_⟩
        refine ⟨q, yy q ?_⟩
        refine .inr (yy q ?_)
        refine ⟨(f 6 q), (c 5 q), q, q, ww, q, q, ww, (f 6 q), q, yy q ?_⟩
        refine ⟨(f 7 q), (c 6 q), q, q, ww, q, q, ww, (f 7 q), q, yy q ?_⟩
        refine ⟨(f 8 q), (c 7 q), q, q, ww, q, q, ww, (f 8 q), q, yy q ?_⟩
        refine ⟨(f 9 q), (c 8 q), q, q, ww, q, q, ww, (f 9 q), q, nn q ?_⟩
        refine ⟨q, yy q ?_⟩
        refine .inr (yy q ?_)
        refine ⟨(f 10 q), (c 9 q), q, q, ww, q, q, ww, (f 10 q), q, yy q ?_⟩
        refine ⟨(f 11 q), (c 10 q), q, q, ww, q, q, ww, (f 11 q), q, yy q ?_⟩
        refine ⟨(f 12 q), (c 11 q), q, q, ww, q, q, ww, (f 12 q), q, nn q ?_⟩
        refine ⟨q, yy q ?_⟩
        refine .inr (yy q ?_)
        refine ⟨(f 13 q), (c 12 q), q, q, ww, q, q, ww, (f 13 q), q, yy q ?_⟩
        refine ⟨(f 14 q), (c 13 q), q, q, ww, q, q, ww, (f 14 q), q, nn q ?_⟩
        refine ⟨q, yy q ?_⟩
        refine .inr (yy q ?_)
        refine ⟨(f 15 q), (c 14 q), q, q, ww, q, q, ww, (f 15 q), q, nn q ?_⟩
        refine ⟨q, nn q ?_⟩
        refine ⟨⟨rfl, rfl, rfl, Nat.le_of_ble_eq_true rfl⟩, ?_⟩
        exact kr4 (v := .agg [.int .i64 6, .sl true (.sl .str) (mkR 5 sz nz), .int .i64 0]) (by kernel_rfl)
  · replace h2 : sz < 0 := h2
    omega
end Go.Proofs.YtcodgflbafanlaaDoor.S27

namespace Go.Proofs.YtcodgflbafanlaaDoor.S27
open Go Go.Proofs.YtcodgflbafanlaaDoor.Vc Go.Proofs
set_option maxRecDepth 100000
set_option linter.unusedVariables false

set_option maxHeartbeats 2000000 in
theorem bRk7 (sz : Int) (nz : List UInt8) (hz : 0 ≤ sz) (hs4 : sz ≤ 4096) (hl : (nz.length : Int) = sz * ((21 : Nat) : Int)) : bodyP (En CRfl tys G6 QPrs [1000000, 1000001]) Tryd.f7 [.k, .n .str, .k] [.int .i64 7, .int .i64 sz, .str nz] (.agg [.int .i64 7, .sl true (.sl .str) (mkR 6 sz nz), .int .i64 0]) [] := by
  have c := @frC sz nz 21 hz hl
  have f := @frR sz hz hs4
  refine ⟨fun h0 => ?_, fun h0 => absurd h0 (show ¬ ((7 : Int) < 2) by decide)⟩
  refine ⟨fun h1 => ?_, fun h1 => absurd h1 (show ¬ ((12 : Int) < 7) by decide)⟩
  refine ⟨fun h2 => ?_, fun h2 => ?_⟩
  · replace h2 : ¬ (sz < 0) := h2
    refine ⟨fun h3 => ?_, fun h3 => ?_⟩
    · replace h3 : 4096 < sz := h3
      omega
    · replace h3 : ¬ (4096 < sz) := h3
      refine ⟨q, ⟨by show (-9223372036854775808 : Int) ≤ (sz * 6); omega, by show (sz * 6) ≤ (9223372036854775807 : Int); omega⟩, q, ⟨by show (-9223372036854775808 : Int) ≤ ((sz * 6) * 7); omega, by show ((sz * 6) * 7) ≤ (9223372036854775807 : Int); omega⟩, .inl ⟨⟨by show (0 : Int) ≤ ((sz * 6) * 7); omega, by show (0 : Int) < 2; omega⟩, ?_⟩⟩
      refine ⟨fun h4 => ?_, fun h4 => ?_⟩
      · replace h4 : (nz.length : Int) ≠ (((sz * 6) * 7) / 2) := h4
        omega
      · replace h4 : ¬ ((nz.length : Int) ≠ (((sz * 6) * 7) / 2)) := h4
        refine ⟨⟨rfl, rfl, rfl, Nat.le_of_ble_eq_true rfl⟩, .inr ?_⟩
        refine yy q ?_
        refine ⟨by kernel_rfl, ⟨rfl, by show (0 : Int) ≤ 6; omega, by show 6 ≤ (1000000000 : Int); omega⟩, ww3, ww3, q, yy q ?_⟩
        refine ⟨by kernel_rfl, ⟨rfl, by show (0 : Int) ≤ 6; omega, by show 6 ≤ (1000000000 : Int); omega⟩, ⟨rfl, rfl, rfl, rfl, rfl, rfl⟩, ww3, q, yy q ?_⟩
        refine ⟨by kernel_rfl, ⟨rfl, by show (0 : Int) ≤ 6; omega, by show 6 ≤ (1000000000 : Int); omega⟩, ⟨rfl, rfl, rfl, rfl, rfl, rfl⟩, ww3, q, yy q ?_⟩
        refine ⟨by kernel_rfl, ⟨rfl, by show (0 : Int) ≤ 6; omega, by show 6 ≤ (1000000000 : Int); omega⟩, ⟨rfl, rfl, rfl, rfl, rfl, rfl⟩, ww3, q, yy q ?_⟩
        refine ⟨by kernel_rfl, ⟨rfl, by show (0 : Int) ≤ 6; omega, by show 6 ≤ (1000000000 : Int); omega⟩, ⟨rfl, rfl, rfl, rfl, rfl, rfl⟩, ww3, q, yy q ?_⟩
        refine ⟨by kernel_rfl, ⟨rfl, by show (0 : Int) ≤ 6; omega, by show 6 ≤ (1000000000 : Int); omega⟩, ⟨rfl, rfl, rfl, rfl, rfl, rfl⟩, ww3, q, nn q ?_⟩
        refine .inr (yy q ?_)
        refine .inr (yy q ?_)
        refine ⟨(f 1 q), (c 0 q), q, q, ww, q, q, ww, (f 1 q), q, yy q ?_⟩
        refine ⟨(f 2 q), (c 1 q), q, q, ww, q, q, ww, (f 2 q), q, yy q ?_⟩
        refine ⟨(f 3 q), (c 2 q), q, q, ww, q, q, ww, (f 3 q), q, yy q ?_⟩
        refine ⟨(f 4 q), (c 3 q), q, q, ww, q, q, ww, (f 4 q), q, yy q ?_⟩
        refine ⟨(f 5 q), (c 4 q), q, q, ww, q, q, ww, (f 5 q), q, yy q ?_⟩
        refine ⟨(f 6 q), (c 5 q), q, q, ww, q, q, ww, (f 6 q), q, nn q ?_⟩
        refine ⟨q, yy q ?_⟩
        refine .inr (yy q ?_)
        refine ⟨(f 7 q), (c 6 q), q, q, ww, q, q, ww, (f 7 q), q, yy q ?_⟩
        refine ⟨(f 8 q), (c 7 q), q, q, ww, q, q, ww, (f 8 q), q, yy q ?_⟩
        refine ⟨(f 9 q), (c 8 q), q, q, ww, q, q, ww, (f 9 q), q, yy q ?_⟩
        refine ⟨(f 10 q), (c 9 q), q, q, ww, q, q, ww, (f 10 q), q, yy q ?_⟩
        refine ⟨(f 11 q), (c 10 q), q, q, ww, q, q, ww, (f 11 q), q, nn q ?_⟩
        refine ⟨q, yy q ?_⟩
        refine .inr (yy q ?_)
        refine ⟨(f 12 q), (c 11 q), q, q, ww, q, q, ww, (f 12 q), q, yy q ?_⟩
        refine ⟨(f 13 q), (c 12 q), q, q, ww, q, q, ww, (f 13 q), q, yy q ?_⟩
        refine ⟨(f 14 q), (c 13 q), q, q, ww, q, q, ww, (f 14 q), q, yy q ?_⟩
        refine ⟨(f 15 q), (c 14 q), q, q, ww, q, q, ww, (f 15 q), q, nn q ?_⟩
        refine ⟨q, yy q ?_⟩
        refine .inr (yy q ?_)
        refine ⟨(f 16 q), (c 15 q), q, q, ww, q, q, ww, (f 16 q), q, yy q ?_⟩
        refine ⟨(f 17 q), (c 16 q), q, q, ww, q, q, ww, (f 17 q), q, yy q ?_⟩
        refine ⟨(f 18 q), (c 17 q), q, q, ww, q, q, ww, (f 18 q), q, nn q ?_⟩
        refine ⟨q, yy q ?_⟩
        refine .inr (yy q ?_)
        refine ⟨(f 19 q), (c 18 q), q, q, ww, q, q, ww, (f 19 q), q, yy q ?_⟩
        refine ⟨(f 20 q), (c 19 q), q, q, ww, q, q, ww, (f 20 q), q, nn q ?_⟩
        refine ⟨q, yy q ?_⟩
        refine .inr (yy q ?_)
        refine ⟨(f 21 q), (c 20 q), q, q, ww, q, q, ww, (f 21 q), q, nn q ?_⟩
        refine ⟨q, nn q ?_⟩
        refine ⟨⟨rfl, rfl, rfl, Nat.le_of_ble_eq_true rfl⟩, ?_⟩
        exact kr4 (v := .agg [.int .i64 7, .sl true (.sl .str) (mkR 6 sz nz), .int .i64 0]) (by kernel_rfl)
  · replace h2 : sz < 0 := h2
    omega
end Go.Proofs.YtcodgflbafanlaaDoor.S27

namespace Go.Proofs.YtcodgflbafanlaaDoor.S27
open Go Go.Proofs.YtcodgflbafanlaaDoor.Vc Go.Proofs
set_option maxRecDepth 100000
set_option linter.unusedVariables false

set_option maxHeartbeats 2000000 in
theorem bRk8 (sz : Int) (nz : List UInt8) (hz : 0 ≤ sz) (hs4 : sz ≤ 4096) (hl : (nz.length : Int) = sz * ((28 : Nat) : Int)) : bodyP (En CRfl tys G6 QPrs [1000000, 1000001]) Tryd.f7 [.k, .n .str, .k] [.int .i64 8, .int .i64 sz, .str nz] (.agg [.int .i64 8, .sl true (.sl .str) (mkR 7 sz nz), .int .i64 0]) [] := by
  have c := @frC sz nz 28 hz hl
  have f := @frR sz hz hs4
  refine ⟨fun h0 => ?_, fun h0 => absurd h0 (show ¬ ((8 : Int) < 2) by decide)⟩
  refine ⟨fun h1 => ?_, fun h1 => absurd h1 (show ¬ ((12 : Int) < 8) by decide)⟩
  refine ⟨fun h2 => ?_, fun h2 => ?_⟩
  · replace h2 : ¬ (sz < 0) := h2
    refine ⟨fun h3 => ?_, fun h3 => ?_⟩
    · replace h3 : 4096 < sz := h3
      omega
    · replace h3 : ¬ (4096 < sz) := h3
      refine ⟨q, ⟨by show (-9223372036854775808 : Int) ≤ (sz * 7); omega, by show (sz * 7) ≤ (9223372036854775807 : Int); omega⟩, q, ⟨by show (-9223372036854775808 : Int) ≤ ((sz * 7) * 8); omega, by show ((sz * 7) * 8) ≤ (9223372036854775807 : Int); omega⟩, .inl ⟨⟨by show (0 : Int) ≤ ((sz * 7) * 8); omega, by show (0 : Int) < 2; omega⟩, ?_⟩⟩
      refine ⟨fun h4 => ?_, fun h4 => ?_⟩
      · replace h4 : (nz.length : Int) ≠ (((sz * 7) * 8) / 2) := h4
        omega
      · replace h4 : ¬ ((nz.length : Int) ≠ (((sz * 7) * 8) / 2)) := h4
        refine ⟨⟨rfl, rfl, rfl, Nat.le_of_ble_eq_true rfl⟩, .inr ?_⟩
        refine yy q ?_
        refine ⟨by kernel_rfl, ⟨rfl, by show (0 : Int) ≤ 7; omega, by show 7 ≤ (1000000000 : Int); omega⟩, ww3, ww3, q, yy q ?_⟩
        refine ⟨by kernel_rfl, ⟨rfl, by show (0 : Int) ≤ 7; omega, by show 7 ≤ (1000000000 : Int); omega⟩, ⟨rfl, rfl, rfl, rfl, rfl, rfl⟩, ww3, q, yy q ?_⟩
        refine ⟨by kernel_rfl, ⟨rfl, by show (0 : Int) ≤ 7; omega, by show 7 ≤ (1000000000 : Int); omega⟩, ⟨rfl, rfl, rfl, rfl, rfl, rfl⟩, ww3, q, yy q ?_⟩
        refine ⟨by kernel_rfl, ⟨rfl, by show (0 : Int) ≤ 7; omega, by show 7 ≤ (1000000000 : Int); omega⟩, ⟨rfl, rfl, rfl, rfl, rfl, rfl⟩, ww3, q, yy q ?_⟩
        refine ⟨by kernel_rfl, ⟨rfl, by show (0 : Int) ≤ 7; omega, by show 7 ≤ (1000000000 : Int); omega⟩, ⟨rfl, rfl, rfl, rfl, rfl, rfl⟩, ww3, q, yy q ?_⟩
        refine ⟨by kernel_rfl, ⟨rfl, by show (0 : Int) ≤ 7; omega, by show 7 ≤ (1000000000 : Int); omega⟩, ⟨rfl, rfl, rfl, rfl, rfl, rfl⟩, ww3, q, yy q ?_⟩
        refine ⟨by kernel_rfl, ⟨rfl, by show (0 : Int) ≤ 7; omega, by show 7 ≤ (1000000000 : Int); omega⟩, ⟨rfl, rfl, rfl, rfl, rfl, rfl⟩, ww3, q, nn q ?_⟩
        refine .inr (yy q ?_)
        refine .inr (yy q ?_)
        refine ⟨(f 1 q), (c 0 q), q, q, ww, q, q, ww, (f 1 q), q, yy q ?_⟩
        refine ⟨(f 2 q), (c 1 q), q, q, ww, q, q, ww, (f 2 q), q, yy q ?_⟩
        refine ⟨(f 3 q), (c 2 q), q, q, ww, q, q, ww, (f 3 q), q, yy q ?_⟩
        refine ⟨(f 4 q), (c 3 q), q, q, ww, q, q, ww, (f 4 q), q, yy q ?_⟩
        refine ⟨(f 5 q), (c 4 q), q, q, ww, q, q, ww, (f 5 q), q, yy q ?_⟩
        refine ⟨(f 6 q), (c 5 q), q, q, ww, q, q, ww, (f 6 q), q, yy q ?_⟩
        refine ⟨(f 7 q), (c 6 q), q, q, ww, q, q, ww, (f 7 q), q, nn q ?_⟩
        refine ⟨q, yy q ?_⟩
        refine .inr (yy q ?_)
        refine ⟨(f 8 q), (c 7 q), q, q, ww, q, q, ww, (f 8 q), q, yy q ?_⟩
        refine ⟨(f 9 q), (c 8 q), q, q, ww, q, q, ww, (f 9 q), q, yy q ?_⟩
        refine ⟨(f 10 q), (c 9 q), q, q, ww, q, q, ww, (f 10 q), q, yy q ?_⟩
        refine ⟨(f 11 q), (c 10 q), q, q, ww, q, q, ww, (f 11 q), q, yy q ?_⟩
        refine ⟨(f 12 q), (c 11 q), q, q, ww, q, q, ww, (f 12 q), q, yy q ?_⟩
        refine ⟨(f 13 q), (c 12 q), q, q, ww, q, q, ww, (f 13 q), q, nn q ?_⟩
        refine ⟨q, yy q ?_⟩
        refine .inr (yy q ?_)
        refine ⟨(f 14 q), (c 13 q), q, q, ww, q, q, ww, (f 14 q), q, yy q ?_⟩
        refine ⟨(f 15 q), (c 14 q), q, q, ww, q, q, ww, (f 15 q), q, yy q ?_⟩
        refine ⟨(f 16 q), (c 15 q), q, q, ww, q, q, ww, (f 16 q), q, yy q ?_⟩
        refine ⟨(f 17 q), (c 16 q), q, q, ww, q, q, ww, (f 17 q), q, yy q ?_⟩
        refine ⟨(f 18 q), (c 17 q), q, q, ww, q, q, ww, (f 18 q), q, nn q ?_⟩
        refine ⟨q, yy q ?_⟩
        refine .inr (yy q ?_)
        refine ⟨(f 19 q), (c 18 q), q, q, ww, q, q, ww, (f 19 q), q, yy q ?_⟩
        refine ⟨(f 20 q), (c 19 q), q, q, ww, q, q, ww, (f 20 q), q, yy q ?_⟩
        refine ⟨(f 21 q), (c 20 q), q, q, ww, q, q, ww, (f 21 q), q, yy q ?_⟩
        refine ⟨(f 22 q), (c 21 q), q, q, ww, q, q, ww, (f 22 q), q, nn q ?_⟩
        refine ⟨q, yy q ?_⟩
        refine .inr (yy q ?_)
        refine ⟨(f 23 q), (c 22 q), q, q, ww, q, q, ww, (f 23 q), q, yy q ?_⟩
        refine ⟨(f 24 q), (c 23 q), q, q, ww, q, q, ww, (f 24 q), q, yy q ?_⟩
        refine ⟨(f 25 q), (c 24 q), q, q, ww, q, q, ww, (f 25 q), q, nn q ?_⟩
        refine ⟨q, yy q ?_⟩
        refine .inr (yy q ?_)
        refine ⟨(f 26 q), (c 25 q), q, q, ww, q, q, ww, (f 26 q), q, yy q ?_⟩
        refine ⟨(f 27 q), (c 26 q), q, q, ww, q, q, ww, (f 27 q), q, nn q ?_⟩
        refine ⟨q, yy q ?_⟩
        refine .inr (yy q ?_)
        refine ⟨(f 28 q), (c 27 q), q, q, ww, q, q, ww, (f 28 q), q, nn q ?_⟩
        refine ⟨q, nn q ?_⟩
        refine ⟨⟨rfl, rfl, rfl, Nat.le_of_ble_eq_true rfl⟩, ?_⟩
        exact kr4 (v := .agg [.int .i64 8, .sl true (.sl .str) (mkR 7 sz nz), .int .i64 0]) (by kernel_rfl)
  · replace h2 : sz < 0 := h2
    omega
end Go.Proofs.YtcodgflbafanlaaDoor.S27

/- Texts of this claim: S27d.M8, S27d.M9. -/
import Derived.Test.YtcodgflbafanlaaDoorS2
set_option linter.unusedVariables false
set_option linter.unusedSimpArgs false
namespace Go.Proofs.YtcodgflbafanlaaDoor.S27
open Go Go.Proofs.YtcodgflbafanlaaDoor.Vc Go.Proofs
set_option maxRecDepth 100000
set_option linter.unusedVariables false

set_option maxHeartbeats 20000000 in
theorem bMk9 (sz : Int) (nz : List UInt8) (hz : 0 ≤ sz) (h1 : sz ≤ 4096) (hl : (nz.length : Int) = sz * ((36 : Nat) : Int)) : bodyP (En CRk tys G6 QPrs [1000000, 1000001]) Tryd.f6 [.m 1 .str, .k] [.int .i64 9, .int .i64 sz, .str nz] (.tup [.agg [.int .i64 9, .sl true (.sl .str) (mkD 8 sz.toNat nz)], .int .i64 0]) [] := by
  have c := @cutOk sz nz 36 hz hl
  refine ⟨fun h0 => ?_, fun h0 => absurd h0 (show ¬ ((9 : Int) < 2) by decide)⟩
  refine ⟨fun h1 => ?_, fun h1 => absurd h1 (show ¬ ((12 : Int) < 9) by decide)⟩
  refine ⟨fun h2 => ?_, fun h2 => ?_⟩
  · replace h2 : ¬ (sz < 0) := h2
    refine ⟨fun h3 => ?_, fun h3 => ?_⟩
    · replace h3 : 4096 < sz := h3
      omega
    · replace h3 : ¬ (4096 < sz) := h3
      refine ⟨q, ⟨by show (-9223372036854775808 : Int) ≤ (sz * 8); omega, by show (sz * 8) ≤ (9223372036854775807 : Int); omega⟩, q, ⟨by show (-9223372036854775808 : Int) ≤ ((sz * 8) * 9); omega, by show ((sz * 8) * 9) ≤ (9223372036854775807 : Int); omega⟩, .inl ⟨⟨by show (0 : Int) ≤ ((sz * 8) * 9); omega, by show (0 : Int) < 2; omega⟩, ?_⟩⟩
      refine ⟨fun h4 => ?_, fun h4 => ?_⟩
      · replace h4 : (nz.length : Int) ≠ (((sz * 8) * 9) / 2) := h4
        omega
      · replace h4 : ¬ ((nz.length : Int) ≠ (((sz * 8) * 9) / 2)) := h4
        refine ⟨⟨rfl, by decide, by decide⟩, ⟨rfl, rfl, rfl, Nat.le_of_ble_eq_true rfl⟩, .inr ?_⟩
        refine yy q ?_
        refine ⟨by kernel_rfl, ⟨rfl, by show (0 : Int) ≤ 8; omega, by show 8 ≤ (1000000000 : Int); omega⟩, q, ww3, q, yy q ?_⟩
        refine ⟨by kernel_rfl, ⟨rfl, by show (0 : Int) ≤ 8; omega, by show 8 ≤ (1000000000 : Int); omega⟩, q, ww3, q, yy q ?_⟩
        refine ⟨by kernel_rfl, ⟨rfl, by show (0 : Int) ≤ 8; omega, by show 8 ≤ (1000000000 : Int); omega⟩, q, ww3, q, yy q ?_⟩
        refine ⟨by kernel_rfl, ⟨rfl, by show (0 : Int) ≤ 8; omega, by show 8 ≤ (1000000000 : Int); omega⟩, q, ww3, q, yy q ?_⟩
        refine ⟨by kernel_rfl, ⟨rfl, by show (0 : Int) ≤ 8; omega, by show 8 ≤ (1000000000 : Int); omega⟩, q, ww3, q, yy q ?_⟩
        refine ⟨by kernel_rfl, ⟨rfl, by show (0 : Int) ≤ 8; omega, by show 8 ≤ (1000000000 : Int); omega⟩, q, ww3, q, yy q ?_⟩
        refine ⟨by kernel_rfl, ⟨rfl, by show (0 : Int) ≤ 8; omega, by show 8 ≤ (1000000000 : Int); omega⟩, q, ww3, q, yy q ?_⟩
        refine ⟨by kernel_rfl, ⟨rfl, by show (0 : Int) ≤ 8; omega, by show 8 ≤ (1000000000 : Int); omega⟩, q, ww3, q, nn q ?_⟩
        refine .inr (yy q ?_)
        refine .inr (yy q ?_)
        refine ⟨by kernel_rfl, q, q, (c 0 q), (c 0 q), q, ww, q, ww, (c 0 q), q, yy q ?_⟩
        refine ⟨by kernel_rfl, q, q, (c 1 q), (c 1 q), q, ww, q, ww, (c 1 q), q, yy q ?_⟩
        refine ⟨by kernel_rfl, q, q, (c 2 q), (c 2 q), q, ww, q, ww, (c 2 q), q, yy q ?_⟩
        refine ⟨by kernel_rfl, q, q, (c 3 q), (c 3 q), q, ww, q, ww, (c 3 q), q, yy q ?_⟩
        refine ⟨by kernel_rfl, q, q, (c 4 q), (c 4 q), q, ww, q, ww, (c 4 q), q, yy q ?_⟩
        refine ⟨by kernel_rfl, q, q, (c 5 q), (c 5 q), q, ww, q, ww, (c 5 q), q, yy q ?_⟩
        refine ⟨by kernel_rfl, q, q, (c 6 q), (c 6 q), q, ww, q, ww, (c 6 q), q, yy q ?_⟩
        refine ⟨by kernel_rfl, q, q, (c 7 q), (c 7 q), q, ww, q, ww, (c 7 q), q, nn q ?_⟩
        refine ⟨q, yy q ?_⟩
        refine .inr (yy q ?_)
        refine ⟨by kernel_rfl, q, q, (c 8 q), (c 8 q), q, ww, q, ww, (c 8 q), q, yy q ?_⟩
        refine ⟨by kernel_rfl, q, q, (c 9 q), (c 9 q), q, ww, q, ww, (c 9 q), q, yy q ?_⟩
        refine ⟨by kernel_rfl, q, q, (c 10 q), (c 10 q), q, ww, q, ww, (c 10 q), q, yy q ?_⟩
        refine ⟨by kernel_rfl, q, q, (c 11 q), (c 11 q), q, ww, q, ww, (c 11 q), q, yy q ?_⟩
        refine ⟨by kernel_rfl, q, q, (c 12 q), (c 12 q), q, ww, q, ww, (c 12 q), q, yy q ?_⟩
        refine ⟨by kernel_rfl, q, q, (c 13 q), (c 13 q), q, ww, q, ww, (c 13 q), q, yy q ?_⟩
        refine ⟨by kernel_rfl, q, q, (c 14 q), (c 14 q), q, ww, q, ww, (c 14 q), q, nn q ?_⟩
        refine ⟨q, yy q ?_⟩
        refine .inr (yy q ?_)
        refine ⟨by kernel_rfl, q, q, (c 15 q), (c 15 q), q, ww, q, ww, (c 15 q), q, yy q ?_⟩
        refine ⟨by kernel_rfl, q, q, (c 16 q), (c 16 q), q, ww, q, ww, (c 16 q), q, yy q ?_⟩
        refine ⟨by kernel_rfl, q, q, (c 17 q), (c 17 q), q, ww, q, ww, (c 17 q), q, yy q ?_⟩
        refine ⟨by kernel_rfl, q, q, (c 18 q), (c 18 q), q, ww, q, ww, (c 18 q), q, yy q ?_⟩
        refine ⟨by kernel_rfl, q, q, (c 19 q), (c 19 q), q, ww, q, ww, (c 19 q), q, yy q ?_⟩
        refine ⟨by kernel_rfl, q, q, (c 20 q), (c 20 q), q, ww, q, ww, (c 20 q), q, nn q ?_⟩
        refine ⟨q, yy q ?_⟩
        refine .inr (yy q ?_)
        refine ⟨by kernel_rfl, q, q, (c 21 q), (c 21 q), q, ww, q, ww, (c 21 q), q, yy q ?_⟩
        refine ⟨by kernel_rfl, q, q, (c 22 q), (c 22 q), q, ww, q, ww, (c 22 q), q, yy q ?_⟩
        refine ⟨by kernel_rfl, q, q, (c 23 q), (c 23 q), q, ww, q, ww, (c 23 q), q, yy q ?_⟩
        refine ⟨by kernel_rfl, q, q, (c 24 q), (c 24 q), q, ww, q, ww, (c 24 q), q, yy q ?_⟩
        refine ⟨by kernel_rfl, q, q, (c 25 q), (c 25 q), q, ww, q, ww, (c 25 q), q, nn q ?_⟩
        refine ⟨q, yy q ?_⟩
        refine .inr (yy q ?_)
        refine ⟨by kernel_rfl, q, q, (c 26 q), (c 26 q), q, ww, q, ww, (c 26 q), q, yy q ?_⟩
        refine ⟨by kernel_rfl, q, q, (c 27 q), (c 27 q), q, ww, q, ww, (c 27 q), q, yy q ?_⟩
        refine ⟨by kernel_rfl, q, q, (c 28 q), (c 28 q), q, ww, q, ww, (c 28 q), q, yy q ?_⟩
        refine ⟨by kernel_rfl, q, q, (c 29 q), (c 29 q), q, ww, q, ww, (c 29 q), q, nn q ?_⟩
        refine ⟨q, yy q ?_⟩
        refine .inr (yy q ?_)
        refine ⟨by kernel_rfl, q, q, (c 30 q), (c 30 q), q, ww, q, ww, (c 30 q), q, yy q ?_⟩
        refine ⟨by kernel_rfl, q, q, (c 31 q), (c 31 q), q, ww, q, ww, (c 31 q), q, yy q ?_⟩
        refine ⟨by kernel_rfl, q, q, (c 32 q), (c 32 q), q, ww, q, ww, (c 32 q), q, nn q ?_⟩
        refine ⟨q, yy q ?_⟩
        refine .inr (yy q ?_)
        refine ⟨by kernel_rfl, q, q, (c 33 q), (c 33 q), q, ww, q, ww, (c 33 q), q, yy q ?_⟩
        refine ⟨by kernel_rfl, q, q, (c 34 q), (c 34 q), q, ww, q, ww, (c 34 q), q, nn q ?_⟩
        refine ⟨q, yy q ?_⟩
        refine .inr (yy q ?_)
        refine ⟨by kernel_rfl, q, q, (c 35 q), (c 35 q), q, ww, q, ww, (c 35 q), q, nn q ?_⟩
        refine ⟨q, nn q ?_⟩
        refine ⟨⟨rfl, rfl, rfl, Nat.le_of_ble_eq_true rfl⟩, ?_⟩
        exact kr4 (v := .tup [.agg [.int .i64 9, .sl true (.sl .str) (mkD 8 sz.toNat nz)], .int .i64 0]) (by kernel_rfl)
  · replace h2 : sz < 0 := h2
    omega
end Go.Proofs.YtcodgflbafanlaaDoor.S27

namespace Go.Proofs.YtcodgflbafanlaaDoor.S27
open Go Go.Proofs.YtcodgflbafanlaaDoor.Vc Go.Proofs
set_option maxRecDepth 100000
set_option linter.unusedVariables false

set_option maxHeartbeats 20000000 in
theorem bMk10 (sz : Int) (nz : List UInt8) (hz : 0 ≤ sz) (h1 : sz ≤ 4096) (hl : (nz.length : Int) = sz * ((45 : Nat) : Int)) : bodyP (En CRk tys G6 QPrs [1000000, 1000001]) Tryd.f6 [.m 1 .str, .k] [.int .i64 10, .int .i64 sz, .str nz] (.tup [.agg [.int .i64 10, .sl true (.sl .str) (mkD 9 sz.toNat nz)], .int .i64 0]) [] := by
  have c := @cutOk sz nz 45 hz hl
  refine ⟨fun h0 => ?_, fun h0 => absurd h0 (show ¬ ((10 : Int) < 2) by decide)⟩
  refine ⟨fun h1 => ?_, fun h1 => absurd h1 (show ¬ ((12 : Int) < 10) by decide)⟩
  refine ⟨fun h2 => ?_, fun h2 => ?_⟩
  · replace h2 : ¬ (sz < 0) := h2
    refine ⟨fun h3 => ?_, fun h3 => ?_⟩
    · replace h3 : 4096 < sz := h3
      omega
    · replace h3 : ¬ (4096 < sz) := h3
      refine ⟨q, ⟨by show (-9223372036854775808 : Int) ≤ (sz * 9); omega, by show (sz * 9) ≤ (9223372036854775807 : Int); omega⟩, q, ⟨by show (-9223372036854775808 : Int) ≤ ((sz * 9) * 10); omega, by show ((sz * 9) * 10) ≤ (9223372036854775807 : Int); omega⟩, .inl ⟨⟨by show (0 : Int) ≤ ((sz * 9) * 10); omega, by show (0 : Int) < 2; omega⟩, ?_⟩⟩
      refine ⟨fun h4 => ?_, fun h4 => ?_⟩
      · replace h4 : (nz.length : Int) ≠ (((sz * 9) * 10) / 2) := h4
        omega
      · replace h4 : ¬ ((nz.length : Int) ≠ (((sz * 9) * 10) / 2)) := h4
        refine ⟨⟨rfl, by decide, by decide⟩, ⟨rfl, rfl, rfl, Nat.le_of_ble_eq_true rfl⟩, .inr ?_⟩
        refine yy q ?_
        refine ⟨by kernel_rfl, ⟨rfl, by show (0 : Int) ≤ 9; omega, by show 9 ≤ (1000000000 : Int); omega⟩, q, ww3, q, yy q ?_⟩
        refine ⟨by kernel_rfl, ⟨rfl, by show (0 : Int) ≤ 9; omega, by show 9 ≤ (1000000000 : Int); omega⟩, q, ww3, q, yy q ?_⟩
        refine ⟨by kernel_rfl, ⟨rfl, by show (0 : Int) ≤ 9; omega, by show 9 ≤ (1000000000 : Int); omega⟩, q, ww3, q, yy q ?_⟩
        refine ⟨by kernel_rfl, ⟨rfl, by show (0 : Int) ≤ 9; omega, by show 9 ≤ (1000000000 : Int); omega⟩, q, ww3, q, yy q ?_⟩
        refine ⟨by kernel_rfl, ⟨rfl, by show (0 : Int) ≤ 9; omega, by show 9 ≤ (1000000000 : Int); omega⟩, q, ww3, q, yy q ?_⟩
        refine ⟨by kernel_rfl, ⟨rfl, by show (0 : Int) ≤ 9; omega, by show 9 ≤ (1000000000 : Int); omega⟩, q, ww3, q, yy q ?_⟩
        refine ⟨by kernel_rfl, ⟨rfl, by show (0 : Int) ≤ 9; omega, by show 9 ≤ (1000000000 : Int); omega⟩, q, ww3, q, yy q ?_⟩
        refine ⟨by kernel_rfl, ⟨rfl, by show (0 : Int) ≤ 9; omega, by show 9 ≤ (1000000000 : Int); omega⟩, q, ww3, q, yy q ?_⟩
        refine ⟨by kernel_rfl, ⟨rfl, by show (0 : Int) ≤ 9; omega, by show 9 ≤ (1000000000 : Int); omega⟩, q, ww3, q, nn q ?_⟩
        refine .inr (yy q ?_)
        refine .inr (yy q ?_)
        refine ⟨by kernel_rfl, q, q, (c 0 q), (c 0 q), q, ww, q, ww, (c 0 q), q, yy q ?_⟩
        refine ⟨by kernel_rfl, q, q, (c 1 q), (c 1 q), q, ww, q, ww, (c 1 q), q, yy q ?_⟩
        refine ⟨by kernel_rfl, q, q, (c 2 q), (c 2 q), q, ww, q, ww, (c 2 q), q, yy q ?_⟩
        refine ⟨by kernel_rfl, q, q, (c 3 q), (c 3 q), q, ww, q, ww, (c 3 q), q, yy q ?_⟩
        refine ⟨by kernel_rfl, q, q, (c 4 q), (c 4 q), q, ww, q, ww, (c 4 q), q, yy q ?_⟩
        refine ⟨by kernel_rfl, q, q, (c 5 q), (c 5 q), q, ww, q, ww, (c 5 q), q, yy q ?_⟩
        refine ⟨by kernel_rfl, q, q, (c 6 q), (c 6 q), q, ww, q, ww, (c 6 q), q, yy q ?_⟩
        refine ⟨by kernel_rfl, q, q, (c 7 q), (c 7 q), q, ww, q, ww, (c 7 q), q, yy q ?_⟩
        refine ⟨by kernel_rfl, q, q, (c 8 q), (c 8 q), q, ww, q, ww, (c 8 q), q, nn q ?_⟩
        refine ⟨q, yy q ?_⟩
        refine .inr (yy q ?_)
        refine ⟨by kernel_rfl, q, q, (c 9 q), (c 9 q), q, ww, q, ww, (c 9 q), q, yy q ?_⟩
        refine ⟨by kernel_rfl, q, q, (c 10 q), (c 10 q), q, ww, q, ww, (c 10 q), q, yy q ?_⟩
        refine ⟨by kernel_rfl, q, q, (c 11 q), (c 11 q), q, ww, q, ww, (c 11 q), q, yy q ?_⟩
        refine ⟨by kernel_rfl, q, q, (c 12 q), (c 12 q), q, ww, q, ww, (c 12 q), q, yy q ?_⟩
        refine ⟨by kernel_rfl, q, q, (c 13 q), (c 13 q), q, ww, q, ww, (c 13 q), q, yy q ?_⟩
        refine ⟨by kernel_rfl, q, q, (c 14 q), (c 14 q), q, ww, q, ww, (c 14 q), q, yy q ?_⟩
        refine ⟨by kernel_rfl, q, q, (c 15 q), (c 15 q), q, ww, q, ww, (c 15 q), q, yy q ?_⟩
        refine ⟨by kernel_rfl, q, q, (c 16 q), (c 16 q), q, ww, q, ww, (c 16 q), q, nn q ?_⟩
        refine ⟨q, yy q ?_⟩
        refine .inr (yy q ?_)
        refine ⟨by kernel_rfl, q, q, (c 17 q), (c 17 q), q, ww, q, ww, (c 17 q), q, yy q ?_⟩
        refine ⟨by kernel_rfl, q, q, (c 18 q), (c 18 q), q, ww, q, ww, (c 18 q), q, yy q ?_⟩
        refine ⟨by kernel_rfl, q, q, (c 19 q), (c 19 q), q, ww, q, ww, (c 19 q), q, yy q ?_⟩
        refine ⟨by kernel_rfl, q, q, (c 20 q), (c 20 q), q, ww, q, ww, (c 20 q), q, yy q ?_⟩
        refine ⟨by kernel_rfl, q, q, (c 21 q), (c 21 q), q, ww, q, ww, (c 21 q), q, yy q ?_⟩
        refine ⟨by kernel_rfl, q, q, (c 22 q), (c 22 q), q, ww, q, ww, (c 22 q), q, yy q ?_⟩
        refine ⟨by kernel_rfl, q, q, (c 23 q), (c 23 q), q, ww, q, ww, (c 23 q), q, nn q ?_⟩
        refine ⟨q, yy q ?_⟩
        refine .inr (yy q ?_)
        refine ⟨by kernel_rfl, q, q, (c 24 q), (c 24 q), q, ww, q, ww, (c 24 q), q, yy q ?_⟩
        refine ⟨by kernel_rfl, q, q, (c 25 q), (c 25 q), q, ww, q, ww, (c 25 q), q, yy q ?_⟩
        refine ⟨by kernel_rfl, q, q, (c 26 q), (c 26 q), q, ww, q, ww, (c 26 q), q, yy q ?_⟩
        refine ⟨by kernel_rfl, q, q, (c 27 q), (c 27 q), q, ww, q, ww, (c 27 q), q, yy q ?_⟩
        refine ⟨by kernel_rfl, q, q, (c 28 q), (c 28 q), q, ww, q, ww, (c 28 q), q, yy q ?_⟩
        refine ⟨by kernel_rfl, q, q, (c 29 q), (c 29 q), q, ww, q, ww, (c 29 q), q, nn q ?_⟩
        refine ⟨q, yy q ?_⟩
        refine .inr (yy q ?_)
        refine ⟨by kernel_rfl, q, q, (c 30 q), (c 30 q), q, ww, q, ww, (c 30 q), q, yy q ?_⟩
        refine ⟨by kernel_rfl, q, q, (c 31 q), (c 31 q), q, ww, q, ww, (c 31 q), q, yy q ?_⟩
        refine ⟨by kernel_rfl, q, q, (c 32 q), (c 32 q), q, ww, q, ww, (c 32 q), q, yy q ?_⟩
        refine ⟨by kernel_rfl, q, q, (c 33 q), (c 33 q), q, ww, q, ww, (c 33 q), q, yy q ?_⟩
        refine ⟨by kernel_rfl, q, q, (c 34 q), (c 34 q), q, ww, q, ww, (c 34 q), q, nn q ?_⟩
        refine ⟨q, yy q ?_⟩
        refine .inr (yy q ?_)
        refine ⟨by kernel_rfl, q, q, (c 35 q), (c 35 q), q, ww, q, ww, (c 35 q), q, yy q ?_⟩
        refine ⟨by kernel_rfl, q, q, (c 36 q), (c 36 q), q, ww, q, ww, (c 36 q), q, yy q ?_⟩
        refine ⟨by kernel_rfl, q, q, (c 37 q), (c 37 q), q, ww, q, ww, (c 37 q), q, yy q ?_⟩
        refine ⟨by kernel_rfl, q, q, (c 38 q), (c 38 q), q, ww, q, ww, (c 38 q), q, nn q ?_⟩
        refine ⟨q, yy q ?_⟩
        refine .inr (yy q ?_)
        refine ⟨by kernel_rfl, q, q, (c 39 q), (c 39 q), q, ww, q, ww, (c 39 q), q, yy q ?_⟩
        refine ⟨by kernel_rfl, q, q, (c 40 q), (c 40 q), q, ww, q, ww, (c 40 q), q, yy q ?_⟩
        refine ⟨by kernel_rfl, q, q, (c 41 q), (c 41 q), q, ww, q, ww, (c 41 q), q, nn q ?_⟩
        refine ⟨q, yy q ?_⟩
        refine .inr (yy q ?_)
        refine ⟨by kernel_rfl, q, q, (c 42 q), (c 42 q), q, ww, q, ww, (c 42 q), q, yy q ?_⟩
        refine ⟨by kernel_rfl, q, q, (c 43 q), (c 43 q), q, ww, q, ww, (c 43 q), q, nn q ?_⟩
        refine ⟨q, yy q ?_⟩
        refine .inr (yy q ?_)
        refine ⟨by kernel_rfl, q, q, (c 44 q), (c 44 q), q, ww, q, ww, (c 44 q), q, nn q ?_⟩
        refine ⟨q, nn q ?_⟩
        refine ⟨⟨rfl, rfl, rfl, Nat.le_of_ble_eq_true rfl⟩, ?_⟩
        exact kr4 (v := .tup [.agg [.int .i64 10, .sl true (.sl .str) (mkD 9 sz.toNat nz)], .int .i64 0]) (by kernel_rfl)
  · replace h2 : sz < 0 := h2
    omega
end Go.Proofs.YtcodgflbafanlaaDoor.S27

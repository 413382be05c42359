/- Texts of this claim: S41.M5, S41.M6, S41.M7, S41.M8, S41.M9, S41.M10, S41.M11, S41.A5, S41.Pj, S41.Pk, S41.P6z, S41.P6a, S41.B1. -/
import Derived.Test.YtogipicegdbhdaaDoorS1
import Derived.Test.YtogipicegdbhdaaDoorVc10
set_option linter.unusedVariables false
set_option linter.unusedSimpArgs false
namespace Go.Proofs.YtogipicegdbhdaaDoor.S41
open Go Go.Proofs.YtogipicegdbhdaaDoor.Vc Go.Proofs
set_option maxRecDepth 100000
set_option linter.unusedVariables false

set_option maxHeartbeats 2000000 in
theorem bMk6 (sz : Int) (nz : List UInt8) (hz : 0 ≤ sz) (h1 : sz ≤ 4096) (hl : (nz.length : Int) = sz * ((15 : Nat) : Int)) : bodyP (En CUpd tys G6 [] [1000000, 1000001]) Tryd.f30 [.m 1 .str, .k] [.int .i64 6, .int .i64 sz, .str nz] (.tup [.agg [.int .i64 6, .sl true (.sl .str) (mkD 5 sz.toNat nz)], .int .i64 0]) [] := by
 have c := @cutOk sz nz 15 hz hl
 refine ⟨fun h0 => ?_, fun h0 => absurd h0 (show ¬ ((6 : Int) < 2) by decide)⟩
 refine ⟨fun h1 => ?_, fun h1 => absurd h1 (show ¬ ((12 : Int) < 6) by decide)⟩
 refine ⟨fun h2 => ?_, fun h2 => ?_⟩
 ·replace h2 : ¬ (sz < 0) := h2
  refine ⟨fun h3 => ?_, fun h3 => ?_⟩
  ·replace h3 : 4096 < sz := h3
   omega
  ·replace h3 : ¬ (4096 < sz) := h3
   refine ⟨q, (r64 (sz * 5)), q, (r64 ((sz * 5) * 6)), .inl ⟨⟨by show (0 : Int) ≤ ((sz * 5) * 6); omega, by show (0 : Int) < 2; omega⟩, ?_⟩⟩
   refine ⟨fun h4 => ?_, fun h4 => ?_⟩
   ·replace h4 : (nz.length : Int) ≠ (((sz * 5) * 6) / 2) := h4
    omega
   ·replace h4 : ¬ ((nz.length : Int) ≠ (((sz * 5) * 6) / 2)) := h4
    refine ⟨⟨rfl, by decide, by decide⟩, ⟨rfl, rfl, rfl, Nat.le_of_ble_eq_true rfl⟩, .inr ?_⟩
    refine yy q ?_
    refine ⟨by kernel_rfl, ⟨rfl, by show (0 : Int) ≤ 5; omega, by show 5 ≤ (1000000000 : Int); omega⟩, q, ww3, q, yy q ?_⟩
    refine ⟨by kernel_rfl, ⟨rfl, by show (0 : Int) ≤ 5; omega, by show 5 ≤ (1000000000 : Int); omega⟩, q, ww3, q, yy q ?_⟩
    refine ⟨by kernel_rfl, ⟨rfl, by show (0 : Int) ≤ 5; omega, by show 5 ≤ (1000000000 : Int); omega⟩, q, ww3, q, yy q ?_⟩
    refine ⟨by kernel_rfl, ⟨rfl, by show (0 : Int) ≤ 5; omega, by show 5 ≤ (1000000000 : Int); omega⟩, q, ww3, q, yy q ?_⟩
    refine ⟨by kernel_rfl, ⟨rfl, by show (0 : Int) ≤ 5; omega, by show 5 ≤ (1000000000 : Int); omega⟩, q, ww3, q, nn q ?_⟩
    refine .inr (yy q ?_)
    refine .inr (yy q ?_)
    refine ⟨by kernel_rfl, q, q, (c 0 q), (c 0 q), q, ww, q, ww, (c 0 q), q, yy q ?_⟩
    refine ⟨by kernel_rfl, q, q, (c 1 q), (c 1 q), q, ww, q, ww, (c 1 q), q, yy q ?_⟩
    refine ⟨by kernel_rfl, q, q, (c 2 q), (c 2 q), q, ww, q, ww, (c 2 q), q, yy q ?_⟩
    refine ⟨by kernel_rfl, q, q, (c 3 q), (c 3 q), q, ww, q, ww, (c 3 q), q, yy q ?_⟩
    refine ⟨by kernel_rfl, q, q, (c 4 q), (c 4 q), q, ww, q, ww, (c 4 q), q, nn q ?_⟩
    refine ⟨q, yy q ?_⟩
    refine .inr (yy q ?_)
    refine ⟨by kernel_rfl, q, q, (c 5 q), (c 5 q), q, ww, q, ww, (c 5 q), q, yy q ?_⟩
    refine ⟨by kernel_rfl, q, q, (c 6 q), (c 6 q), q, ww, q, ww, (c 6 q), q, yy q ?_⟩
    refine ⟨by kernel_rfl, q, q, (c 7 q), (c 7 q), q, ww, q, ww, (c 7 q), q, yy q ?_⟩
    refine ⟨by kernel_rfl, q, q, (c 8 q), (c 8 q), q, ww, q, ww, (c 8 q), q, nn q ?_⟩
    refine ⟨q, yy q ?_⟩
    refine .inr (yy q ?_)
    refine ⟨by kernel_rfl, q, q, (c 9 q), (c 9 q), q, ww, q, ww, (c 9 q), q, yy q ?_⟩
    refine ⟨by kernel_rfl, q, q, (c 10 q), (c 10 q), q, ww, q, ww, (c 10 q), q, yy q ?_⟩
    refine ⟨by kernel_rfl, q, q, (c 11 q), (c 11 q), q, ww, q, ww, (c 11 q), q, nn q ?_⟩
    refine ⟨q, yy q ?_⟩
    refine .inr (yy q ?_)
    refine ⟨by kernel_rfl, q, q, (c 12 q), (c 12 q), q, ww, q, ww, (c 12 q), q, yy q ?_⟩
    refine ⟨by kernel_rfl, q, q, (c 13 q), (c 13 q), q, ww, q, ww, (c 13 q), q, nn q ?_⟩
    refine ⟨q, yy q ?_⟩
    refine .inr (yy q ?_)
    refine ⟨by kernel_rfl, q, q, (c 14 q), (c 14 q), q, ww, q, ww, (c 14 q), q, nn q ?_⟩
    refine ⟨q, nn q ?_⟩
    refine ⟨⟨rfl, rfl, rfl, Nat.le_of_ble_eq_true rfl⟩, ?_⟩
    exact kr4 (v := .tup [.agg [.int .i64 6, .sl true (.sl .str) (mkD 5 sz.toNat nz)], .int .i64 0]) (by kernel_rfl)
 ·replace h2 : sz < 0 := h2
  omega
end Go.Proofs.YtogipicegdbhdaaDoor.S41

namespace Go.Proofs.YtogipicegdbhdaaDoor.S41
open Go Go.Proofs.YtogipicegdbhdaaDoor.Vc Go.Proofs
set_option maxRecDepth 100000
set_option linter.unusedVariables false

set_option maxHeartbeats 2000000 in
theorem bMk7 (sz : Int) (nz : List UInt8) (hz : 0 ≤ sz) (h1 : sz ≤ 4096) (hl : (nz.length : Int) = sz * ((21 : Nat) : Int)) : bodyP (En CUpd tys G6 [] [1000000, 1000001]) Tryd.f30 [.m 1 .str, .k] [.int .i64 7, .int .i64 sz, .str nz] (.tup [.agg [.int .i64 7, .sl true (.sl .str) (mkD 6 sz.toNat nz)], .int .i64 0]) [] := by
 have c := @cutOk sz nz 21 hz hl
 refine ⟨fun h0 => ?_, fun h0 => absurd h0 (show ¬ ((7 : Int) < 2) by decide)⟩
 refine ⟨fun h1 => ?_, fun h1 => absurd h1 (show ¬ ((12 : Int) < 7) by decide)⟩
 refine ⟨fun h2 => ?_, fun h2 => ?_⟩
 ·replace h2 : ¬ (sz < 0) := h2
  refine ⟨fun h3 => ?_, fun h3 => ?_⟩
  ·replace h3 : 4096 < sz := h3
   omega
  ·replace h3 : ¬ (4096 < sz) := h3
   refine ⟨q, (r64 (sz * 6)), q, (r64 ((sz * 6) * 7)), .inl ⟨⟨by show (0 : Int) ≤ ((sz * 6) * 7); omega, by show (0 : Int) < 2; omega⟩, ?_⟩⟩
   refine ⟨fun h4 => ?_, fun h4 => ?_⟩
   ·replace h4 : (nz.length : Int) ≠ (((sz * 6) * 7) / 2) := h4
    omega
   ·replace h4 : ¬ ((nz.length : Int) ≠ (((sz * 6) * 7) / 2)) := h4
    refine ⟨⟨rfl, by decide, by decide⟩, ⟨rfl, rfl, rfl, Nat.le_of_ble_eq_true rfl⟩, .inr ?_⟩
    refine yy q ?_
    refine ⟨by kernel_rfl, ⟨rfl, by show (0 : Int) ≤ 6; omega, by show 6 ≤ (1000000000 : Int); omega⟩, q, ww3, q, yy q ?_⟩
    refine ⟨by kernel_rfl, ⟨rfl, by show (0 : Int) ≤ 6; omega, by show 6 ≤ (1000000000 : Int); omega⟩, q, ww3, q, yy q ?_⟩
    refine ⟨by kernel_rfl, ⟨rfl, by show (0 : Int) ≤ 6; omega, by show 6 ≤ (1000000000 : Int); omega⟩, q, ww3, q, yy q ?_⟩
    refine ⟨by kernel_rfl, ⟨rfl, by show (0 : Int) ≤ 6; omega, by show 6 ≤ (1000000000 : Int); omega⟩, q, ww3, q, yy q ?_⟩
    refine ⟨by kernel_rfl, ⟨rfl, by show (0 : Int) ≤ 6; omega, by show 6 ≤ (1000000000 : Int); omega⟩, q, ww3, q, yy q ?_⟩
    refine ⟨by kernel_rfl, ⟨rfl, by show (0 : Int) ≤ 6; omega, by show 6 ≤ (1000000000 : Int); omega⟩, q, ww3, q, nn q ?_⟩
    refine .inr (yy q ?_)
    refine .inr (yy q ?_)
    refine ⟨by kernel_rfl, q, q, (c 0 q), (c 0 q), q, ww, q, ww, (c 0 q), q, yy q ?_⟩
    refine ⟨by kernel_rfl, q, q, (c 1 q), (c 1 q), q, ww, q, ww, (c 1 q), q, yy q ?_⟩
    refine ⟨by kernel_rfl, q, q, (c 2 q), (c 2 q), q, ww, q, ww, (c 2 q), q, yy q ?_⟩
    refine ⟨by kernel_rfl, q, q, (c 3 q), (c 3 q), q, ww, q, ww, (c 3 q), q, yy q ?_⟩
    refine ⟨by kernel_rfl, q, q, (c 4 q), (c 4 q), q, ww, q, ww, (c 4 q), q, yy q ?_⟩
    refine ⟨by kernel_rfl, q, q, (c 5 q), (c 5 q), q, ww, q, ww, (c 5 q), q, nn q ?_⟩
    refine ⟨q, yy q ?_⟩
    refine .inr (yy q ?_)
    refine ⟨by kernel_rfl, q, q, (c 6 q), (c 6 q), q, ww, q, ww, (c 6 q), q, yy q ?_⟩
    refine ⟨by kernel_rfl, q, q, (c 7 q), (c 7 q), q, ww, q, ww, (c 7 q), q, yy q ?_⟩
    refine ⟨by kernel_rfl, q, q, (c 8 q), (c 8 q), q, ww, q, ww, (c 8 q), q, yy q ?_⟩
    refine ⟨by kernel_rfl, q, q, (c 9 q), (c 9 q), q, ww, q, ww, (c 9 q), q, yy q ?_⟩
    refine ⟨by kernel_rfl, q, q, (c 10 q), (c 10 q), q, ww, q, ww, (c 10 q), q, nn q ?_⟩
    refine ⟨q, yy q ?_⟩
    refine .inr (yy q ?_)
    refine ⟨by kernel_rfl, q, q, (c 11 q), (c 11 q), q, ww, q, ww, (c 11 q), q, yy q ?_⟩
    refine ⟨by kernel_rfl, q, q, (c 12 q), (c 12 q), q, ww, q, ww, (c 12 q), q, yy q ?_⟩
    refine ⟨by kernel_rfl, q, q, (c 13 q), (c 13 q), q, ww, q, ww, (c 13 q), q, yy q ?_⟩
    refine ⟨by kernel_rfl, q, q, (c 14 q), (c 14 q), q, ww, q, ww, (c 14 q), q, nn q ?_⟩
    refine ⟨q, yy q ?_⟩
    refine .inr (yy q ?_)
    refine ⟨by kernel_rfl, q, q, (c 15 q), (c 15 q), q, ww, q, ww, (c 15 q), q, yy q ?_⟩
    refine ⟨by kernel_rfl, q, q, (c 16 q), (c 16 q), q, ww, q, ww, (c 16 q), q, yy q ?_⟩
    refine ⟨by kernel_rfl, q, q, (c 17 q), (c 17 q), q, ww, q, ww, (c 17 q), q, nn q ?_⟩
    refine ⟨q, yy q ?_⟩
    refine .inr (yy q ?_)
    refine ⟨by kernel_rfl, q, q, (c 18 q), (c 18 q), q, ww, q, ww, (c 18 q), q, yy q ?_⟩
    refine ⟨by kernel_rfl, q, q, (c 19 q), (c 19 q), q, ww, q, ww, (c 19 q), q, nn q ?_⟩
    refine ⟨q, yy q ?_⟩
    refine .inr (yy q ?_)
    refine ⟨by kernel_rfl, q, q, (c 20 q), (c 20 q), q, ww, q, ww, (c 20 q), q, nn q ?_⟩
    refine ⟨q, nn q ?_⟩
    refine ⟨⟨rfl, rfl, rfl, Nat.le_of_ble_eq_true rfl⟩, ?_⟩
    exact kr4 (v := .tup [.agg [.int .i64 7, .sl true (.sl .str) (mkD 6 sz.toNat nz)], .int .i64 0]) (by kernel_rfl)
 ·replace h2 : sz < 0 := h2
  omega
end Go.Proofs.YtogipicegdbhdaaDoor.S41

namespace Go.Proofs.YtogipicegdbhdaaDoor.S41
open Go Go.Proofs.YtogipicegdbhdaaDoor.Vc Go.Proofs
set_option maxRecDepth 100000
set_option linter.unusedVariables false

set_option maxHeartbeats 2000000 in
theorem bMk8 (sz : Int) (nz : List UInt8) (hz : 0 ≤ sz) (h1 : sz ≤ 4096) (hl : (nz.length : Int) = sz * ((28 : Nat) : Int)) : bodyP (En CUpd tys G6 [] [1000000, 1000001]) Tryd.f30 [.m 1 .str, .k] [.int .i64 8, .int .i64 sz, .str nz] (.tup [.agg [.int .i64 8, .sl true (.sl .str) (mkD 7 sz.toNat nz)], .int .i64 0]) [] := by
 have c := @cutOk sz nz 28 hz hl
 refine ⟨fun h0 => ?_, fun h0 => absurd h0 (show ¬ ((8 : Int) < 2) by decide)⟩
 refine ⟨fun h1 => ?_, fun h1 => absurd h1 (show ¬ ((12 : Int) < 8) by decide)⟩
 refine ⟨fun h2 => ?_, fun h2 => ?_⟩
 ·replace h2 : ¬ (sz < 0) := h2
  refine ⟨fun h3 => ?_, fun h3 => ?_⟩
  ·replace h3 : 4096 < sz := h3
   omega
  ·replace h3 : ¬ (4096 < sz) := h3
   refine ⟨q, (r64 (sz * 7)), q, (r64 ((sz * 7) * 8)), .inl ⟨⟨by show (0 : Int) ≤ ((sz * 7) * 8); omega, by show (0 : Int) < 2; omega⟩, ?_⟩⟩
   refine ⟨fun h4 => ?_, fun h4 => ?_⟩
   ·replace h4 : (nz.length : Int) ≠ (((sz * 7) * 8) / 2) := h4
    omega
   ·replace h4 : ¬ ((nz.length : Int) ≠ (((sz * 7) * 8) / 2)) := h4
    refine ⟨⟨rfl, by decide, by decide⟩, ⟨rfl, rfl, rfl, Nat.le_of_ble_eq_true rfl⟩, .inr ?_⟩
    refine yy q ?_
    refine ⟨by kernel_rfl, ⟨rfl, by show (0 : Int) ≤ 7; omega, by show 7 ≤ (1000000000 : Int); omega⟩, q, ww3, q, yy q ?_⟩
    refine ⟨by kernel_rfl, ⟨rfl, by show (0 : Int) ≤ 7; omega, by show 7 ≤ (1000000000 : Int); omega⟩, q, ww3, q, yy q ?_⟩
    refine ⟨by kernel_rfl, ⟨rfl, by show (0 : Int) ≤ 7; omega, by show 7 ≤ (1000000000 : Int); omega⟩, q, ww3, q, yy q ?_⟩
    refine ⟨by kernel_rfl, ⟨rfl, by show (0 : Int) ≤ 7; omega, by show 7 ≤ (1000000000 : Int); omega⟩, q, ww3, q, yy q ?_⟩
    refine ⟨by kernel_rfl, ⟨rfl, by show (0 : Int) ≤ 7; omega, by show 7 ≤ (1000000000 : Int); omega⟩, q, ww3, q, yy q ?_⟩
    refine ⟨by kernel_rfl, ⟨rfl, by show (0 : Int) ≤ 7; omega, by show 7 ≤ (1000000000 : Int); omega⟩, q, ww3, q, yy q ?_⟩
    refine ⟨by kernel_rfl, ⟨rfl, by show (0 : Int) ≤ 7; omega, by show 7 ≤ (1000000000 : Int); omega⟩, q, ww3, q, nn q ?_⟩
    refine .inr (yy q ?_)
    refine .inr (yy q ?_)
    refine ⟨by kernel_rfl, q, q, (c 0 q), (c 0 q), q, ww, q, ww, (c 0 q), q, yy q ?_⟩
    refine ⟨by kernel_rfl, q, q, (c 1 q), (c 1 q), q, ww, q, ww, (c 1 q), q, yy q ?_⟩
    refine ⟨by kernel_rfl, q, q, (c 2 q), (c 2 q), q, ww, q, ww, (c 2 q), q, yy q ?_⟩
    refine ⟨by kernel_rfl, q, q, (c 3 q), (c 3 q), q, ww, q, ww, (c 3 q), q, yy q ?_⟩
    refine ⟨by kernel_rfl, q, q, (c 4 q), (c 4 q), q, ww, q, ww, (c 4 q), q, yy q ?_⟩
    refine ⟨by kernel_rfl, q, q, (c 5 q), (c 5 q), q, ww, q, ww, (c 5 q), q, yy q ?_⟩
    refine ⟨by kernel_rfl, q, q, (c 6 q), (c 6 q), q, ww, q, ww, (c 6 q), q, nn q ?_⟩
    refine ⟨q, yy q ?_⟩
    refine .inr (yy q ?_)
    refine ⟨by kernel_rfl, q, q, (c 7 q), (c 7 q), q, ww, q, ww, (c 7 q), q, yy q ?_⟩
    refine ⟨by kernel_rfl, q, q, (c 8 q), (c 8 q), q, ww, q, ww, (c 8 q), q, yy q ?_⟩
    refine ⟨by kernel_rfl, q, q, (c 9 q), (c 9 q), q, ww, q, ww, (c 9 q), q, yy q ?_⟩
    refine ⟨by kernel_rfl, q, q, (c 10 q), (c 10 q), q, ww, q, ww, (c 10 q), q, yy q ?_⟩
    refine ⟨by kernel_rfl, q, q, (c 11 q), (c 11 q), q, ww, q, ww, (c 11 q), q, yy q ?_⟩
    refine ⟨by kernel_rfl, q, q, (c 12 q), (c 12 q), q, ww, q, ww, (c 12 q), q, nn q ?_⟩
    refine ⟨q, yy q ?_⟩
    refine .inr (yy q ?_)
    refine ⟨by kernel_rfl, q, q, (c 13 q), (c 13 q), q, ww, q, ww, (c 13 q), q, yy q ?_⟩
    refine ⟨by kernel_rfl, q, q, (c 14 q), (c 14 q), q, ww, q, ww, (c 14 q), q, yy q ?_⟩
    refine ⟨by kernel_rfl, q, q, (c 15 q), (c 15 q), q, ww, q, ww, (c 15 q), q, yy q ?_⟩
    refine ⟨by kernel_rfl, q, q, (c 16 q), (c 16 q), q, ww, q, ww, (c 16 q), q, yy q ?_⟩
    refine ⟨by kernel_rfl, q, q, (c 17 q), (c 17 q), q, ww, q, ww, (c 17 q), q, nn q ?_⟩
    refine ⟨q, yy q ?_⟩
    refine .inr (yy q ?_)
    refine ⟨by kernel_rfl, q, q, (c 18 q), (c 18 q), q, ww, q, ww, (c 18 q), q, yy q ?_⟩
    refine ⟨by kernel_rfl, q, q, (c 19 q), (c 19 q), q, ww, q, ww, (c 19 q), q, yy q ?_⟩
    refine ⟨by kernel_rfl, q, q, (c 20 q), (c 20 q), q, ww, q, ww, (c 20 q), q, yy q ?_⟩
    refine ⟨by kernel_rfl, q, q, (c 21 q), (c 21 q), q, ww, q, ww, (c 21 q), q, nn q ?_⟩
    refine ⟨q, yy q ?_⟩
    refine .inr (yy q ?_)
    refine ⟨by kernel_rfl, q, q, (c 22 q), (c 22 q), q, ww, q, ww, (c 22 q), q, yy q ?_⟩
    refine ⟨by kernel_rfl, q, q, (c 23 q), (c 23 q), q, ww, q, ww, (c 23 q), q, yy q ?_⟩
    refine ⟨by kernel_rfl, q, q, (c 24 q), (c 24 q), q, ww, q, ww, (c 24 q), q, nn q ?_⟩
    refine ⟨q, yy q ?_⟩
    refine .inr (yy q ?_)
    refine ⟨by kernel_rfl, q, q, (c 25 q), (c 25 q), q, ww, q, ww, (c 25 q), q, yy q ?_⟩
    refine ⟨by kernel_rfl, q, q, (c 26 q), (c 26 q), q, ww, q, ww, (c 26 q), q, nn q ?_⟩
    refine ⟨q, yy q ?_⟩
    refine .inr (yy q ?_)
    refine ⟨by kernel_rfl, q, q, (c 27 q), (c 27 q), q, ww, q, ww, (c 27 q), q, nn q ?_⟩
    refine ⟨q, nn q ?_⟩
    refine ⟨⟨rfl, rfl, rfl, Nat.le_of_ble_eq_true rfl⟩, ?_⟩
    exact kr4 (v := .tup [.agg [.int .i64 8, .sl true (.sl .str) (mkD 7 sz.toNat nz)], .int .i64 0]) (by kernel_rfl)
 ·replace h2 : sz < 0 := h2
  omega
end Go.Proofs.YtogipicegdbhdaaDoor.S41

namespace Go.Proofs.YtogipicegdbhdaaDoor.S41
open Go Go.Proofs.YtogipicegdbhdaaDoor.Vc Go.Proofs
set_option maxRecDepth 100000
set_option linter.unusedVariables false

set_option maxHeartbeats 20000000 in
theorem bMk9 (sz : Int) (nz : List UInt8) (hz : 0 ≤ sz) (h1 : sz ≤ 4096) (hl : (nz.length : Int) = sz * ((36 : Nat) : Int)) : bodyP (En CUpd tys G6 [] [1000000, 1000001]) Tryd.f30 [.m 1 .str, .k] [.int .i64 9, .int .i64 sz, .str nz] (.tup [.agg [.int .i64 9, .sl true (.sl .str) (mkD 8 sz.toNat nz)], .int .i64 0]) [] := by
 have c := @cutOk sz nz 36 hz hl
 refine ⟨fun h0 => ?_, fun h0 => absurd h0 (show ¬ ((9 : Int) < 2) by decide)⟩
 refine ⟨fun h1 => ?_, fun h1 => absurd h1 (show ¬ ((12 : Int) < 9) by decide)⟩
 refine ⟨fun h2 => ?_, fun h2 => ?_⟩
 ·replace h2 : ¬ (sz < 0) := h2
  refine ⟨fun h3 => ?_, fun h3 => ?_⟩
  ·replace h3 : 4096 < sz := h3
   omega
  ·replace h3 : ¬ (4096 < sz) := h3
   refine ⟨q, (r64 (sz * 8)), q, (r64 ((sz * 8) * 9)), .inl ⟨⟨by show (0 : Int) ≤ ((sz * 8) * 9); omega, by show (0 : Int) < 2; omega⟩, ?_⟩⟩
   refine ⟨fun h4 => ?_, fun h4 => ?_⟩
   ·replace h4 : (nz.length : Int) ≠ (((sz * 8) * 9) / 2) := h4
    omega
   ·replace h4 : ¬ ((nz.length : Int) ≠ (((sz * 8) * 9) / 2)) := h4
    refine ⟨⟨rfl, by decide, by decide⟩, ⟨rfl, rfl, rfl, Nat.le_of_ble_eq_true rfl⟩, .inr ?_⟩
    refine yy q ?_
    refine ⟨by kernel_rfl, ⟨rfl, by show (0 : Int) ≤ 8; omega, by show 8 ≤ (1000000000 : Int); omega⟩, q, ww3, q, yy q ?_⟩
    refine ⟨by kernel_rfl, ⟨rfl, by show (0 : Int) ≤ 8; omega, by show 8 ≤ (1000000000 : Int); omega⟩, q, ww3, q, yy q ?_⟩
    refine ⟨by kernel_rfl, ⟨rfl, by show (0 : Int) ≤ 8; omega, by show 8 ≤ (1000000000 : Int); omega⟩, q, ww3, q, yy q ?_⟩
    refine ⟨by kernel_rfl, ⟨rfl, by show (0 : Int) ≤ 8; omega, by show 8 ≤ (1000000000 : Int); omega⟩, q, ww3, q, yy q ?_⟩
    refine ⟨by kernel_rfl, ⟨rfl, by show (0 : Int) ≤ 8; omega, by show 8 ≤ (1000000000 : Int); omega⟩, q, ww3, q, yy q ?_⟩
    refine ⟨by kernel_rfl, ⟨rfl, by show (0 : Int) ≤ 8; omega, by show 8 ≤ (1000000000 : Int); omega⟩, q, ww3, q, yy q ?_⟩
    refine ⟨by kernel_rfl, ⟨rfl, by show (0 : Int) ≤ 8; omega, by show 8 ≤ (1000000000 : Int); omega⟩, q, ww3, q, yy q ?_⟩
    refine ⟨by kernel_rfl, ⟨rfl, by show (0 : Int) ≤ 8; omega, by show 8 ≤ (1000000000 : Int); omega⟩, q, ww3, q, nn q ?_⟩
    refine .inr (yy q ?_)
    refine .inr (yy q ?_)
    refine ⟨by kernel_rfl, q, q, (c 0 q), (c 0 q), q, ww, q, ww, (c 0 q), q, yy q ?_⟩
    refine ⟨by kernel_rfl, q, q, (c 1 q), (c 1 q), q, ww, q, ww, (c 1 q), q, yy q ?_⟩
    refine ⟨by kernel_rfl, q, q, (c 2 q), (c 2 q), q, ww, q, ww, (c 2 q), q, yy q ?_⟩
    refine ⟨by kernel_rfl, q, q, (c 3 q), (c 3 q), q, ww, q, ww, (c 3 q), q, yy q ?_⟩
    refine ⟨by kernel_rfl, q, q, (c 4 q), (c 4 q), q, ww, q, ww, (c 4 q), q, yy q ?_⟩
    refine ⟨by kernel_rfl, q, q, (c 5 q), (c 5 q), q, ww, q, ww, (c 5 q), q, yy q ?_⟩
    refine ⟨by kernel_rfl, q, q, (c 6 q), (c 6 q), q, ww, q, ww, (c 6 q), q, yy q ?_⟩
    refine ⟨by kernel_rfl, q, q, (c 7 q), (c 7 q), q, ww, q, ww, (c 7 q), q, nn q ?_⟩
    refine ⟨q, yy q ?_⟩
    refine .inr (yy q ?_)
    refine ⟨by kernel_rfl, q, q, (c 8 q), (c 8 q), q, ww, q, ww, (c 8 q), q, yy q ?_⟩
    refine ⟨by kernel_rfl, q, q, (c 9 q), (c 9 q), q, ww, q, ww, (c 9 q), q, yy q ?_⟩
    refine ⟨by kernel_rfl, q, q, (c 10 q), (c 10 q), q, ww, q, ww, (c 10 q), q, yy q ?_⟩
    refine ⟨by kernel_rfl, q, q, (c 11 q), (c 11 q), q, ww, q, ww, (c 11 q), q, yy q ?_⟩
    refine ⟨by kernel_rfl, q, q, (c 12 q), (c 12 q), q, ww, q, ww, (c 12 q), q, yy q ?_⟩
    refine ⟨by kernel_rfl, q, q, (c 13 q), (c 13 q), q, ww, q, ww, (c 13 q), q, yy q ?_⟩
    refine ⟨by kernel_rfl, q, q, (c 14 q), (c 14 q), q, ww, q, ww, (c 14 q), q, nn q ?_⟩
    refine ⟨q, yy q ?_⟩
    refine .inr (yy q ?_)
    refine ⟨by kernel_rfl, q, q, (c 15 q), (c 15 q), q, ww, q, ww, (c 15 q), q, yy q ?_⟩
    refine ⟨by kernel_rfl, q, q, (c 16 q), (c 16 q), q, ww, q, ww, (c 16 q), q, yy q ?_⟩
    refine ⟨by kernel_rfl, q, q, (c 17 q), (c 17 q), q, ww, q, ww, (c 17 q), q, yy q ?_⟩
    refine ⟨by kernel_rfl, q, q, (c 18 q), (c 18 q), q, ww, q, ww, (c 18 q), q, yy q ?_⟩
    refine ⟨by kernel_rfl, q, q, (c 19 q), (c 19 q), q, ww, q, ww, (c 19 q), q, yy q ?_⟩
    refine ⟨by kernel_rfl, q, q, (c 20 q), (c 20 q), q, ww, q, ww, (c 20 q), q, nn q ?_⟩
    refine ⟨q, yy q ?_⟩
    refine .inr (yy q ?_)
    refine ⟨by kernel_rfl, q, q, (c 21 q), (c 21 q), q, ww, q, ww, (c 21 q), q, yy q ?_⟩
    refine ⟨by kernel_rfl, q, q, (c 22 q), (c 22 q), q, ww, q, ww, (c 22 q), q, yy q ?_⟩
    refine ⟨by kernel_rfl, q, q, (c 23 q), (c 23 q), q, ww, q, ww, (c 23 q), q, yy q ?_⟩
    refine ⟨by kernel_rfl, q, q, (c 24 q), (c 24 q), q, ww, q, ww, (c 24 q), q, yy q ?_⟩
    refine ⟨by kernel_rfl, q, q, (c 25 q), (c 25 q), q, ww, q, ww, (c 25 q), q, nn q ?_⟩
    refine ⟨q, yy q ?_⟩
    refine .inr (yy q ?_)
    refine ⟨by kernel_rfl, q, q, (c 26 q), (c 26 q), q, ww, q, ww, (c 26 q), q, yy q ?_⟩
    refine ⟨by kernel_rfl, q, q, (c 27 q), (c 27 q), q, ww, q, ww, (c 27 q), q, yy q ?_⟩
    refine ⟨by kernel_rfl, q, q, (c 28 q), (c 28 q), q, ww, q, ww, (c 28 q), q, yy q ?_⟩
    refine ⟨by kernel_rfl, q, q, (c 29 q), (c 29 q), q, ww, q, ww, (c 29 q), q, nn q ?_⟩
    refine ⟨q, yy q ?_⟩
    refine .inr (yy q ?_)
    refine ⟨by kernel_rfl, q, q, (c 30 q), (c 30 q), q, ww, q, ww, (c 30 q), q, yy q ?_⟩
    refine ⟨by kernel_rfl, q, q, (c 31 q), (c 31 q), q, ww, q, ww, (c 31 q), q, yy q ?_⟩
    refine ⟨by kernel_rfl, q, q, (c 32 q), (c 32 q), q, ww, q, ww, (c 32 q), q, nn q ?_⟩
    refine ⟨q, yy q ?_⟩
    refine .inr (yy q ?_)
    refine ⟨by kernel_rfl, q, q, (c 33 q), (c 33 q), q, ww, q, ww, (c 33 q), q, yy q ?_⟩
    refine ⟨by kernel_rfl, q, q, (c 34 q), (c 34 q), q, ww, q, ww, (c 34 q), q, nn q ?_⟩
    refine ⟨q, yy q ?_⟩
    refine .inr (yy q ?_)
    refine ⟨by kernel_rfl, q, q, (c 35 q), (c 35 q), q, ww, q, ww, (c 35 q), q, nn q ?_⟩
    refine ⟨q, nn q ?_⟩
    refine ⟨⟨rfl, rfl, rfl, Nat.le_of_ble_eq_true rfl⟩, ?_⟩
    exact kr4 (v := .tup [.agg [.int .i64 9, .sl true (.sl .str) (mkD 8 sz.toNat nz)], .int .i64 0]) (by kernel_rfl)
 ·replace h2 : sz < 0 := h2
  omega
end Go.Proofs.YtogipicegdbhdaaDoor.S41

namespace Go.Proofs.YtogipicegdbhdaaDoor.S41
open Go Go.Proofs.YtogipicegdbhdaaDoor.Vc Go.Proofs
set_option maxRecDepth 100000
set_option linter.unusedVariables false

set_option maxHeartbeats 20000000 in
theorem bMk10 (sz : Int) (nz : List UInt8) (hz : 0 ≤ sz) (h1 : sz ≤ 4096) (hl : (nz.length : Int) = sz * ((45 : Nat) : Int)) : bodyP (En CUpd tys G6 [] [1000000, 1000001]) Tryd.f30 [.m 1 .str, .k] [.int .i64 10, .int .i64 sz, .str nz] (.tup [.agg [.int .i64 10, .sl true (.sl .str) (mkD 9 sz.toNat nz)], .int .i64 0]) [] := by
 have c := @cutOk sz nz 45 hz hl
 refine ⟨fun h0 => ?_, fun h0 => absurd h0 (show ¬ ((10 : Int) < 2) by decide)⟩
 refine ⟨fun h1 => ?_, fun h1 => absurd h1 (show ¬ ((12 : Int) < 10) by decide)⟩
 refine ⟨fun h2 => ?_, fun h2 => ?_⟩
 ·replace h2 : ¬ (sz < 0) := h2
  refine ⟨fun h3 => ?_, fun h3 => ?_⟩
  ·replace h3 : 4096 < sz := h3
   omega
  ·replace h3 : ¬ (4096 < sz) := h3
   refine ⟨q, (r64 (sz * 9)), q, (r64 ((sz * 9) * 10)), .inl ⟨⟨by show (0 : Int) ≤ ((sz * 9) * 10); omega, by show (0 : Int) < 2; omega⟩, ?_⟩⟩
   refine ⟨fun h4 => ?_, fun h4 => ?_⟩
   ·replace h4 : (nz.length : Int) ≠ (((sz * 9) * 10) / 2) := h4
    omega
   ·replace h4 : ¬ ((nz.length : Int) ≠ (((sz * 9) * 10) / 2)) := h4
    refine ⟨⟨rfl, by decide, by decide⟩, ⟨rfl, rfl, rfl, Nat.le_of_ble_eq_true rfl⟩, .inr ?_⟩
    refine yy q ?_
    refine ⟨by kernel_rfl, ⟨rfl, by show (0 : Int) ≤ 9; omega, by show 9 ≤ (1000000000 : Int); omega⟩, q, ww3, q, yy q ?_⟩
    refine ⟨by kernel_rfl, ⟨rfl, by show (0 : Int) ≤ 9; omega, by show 9 ≤ (1000000000 : Int); omega⟩, q, ww3, q, yy q ?_⟩
    refine ⟨by kernel_rfl, ⟨rfl, by show (0 : Int) ≤ 9; omega, by show 9 ≤ (1000000000 : Int); omega⟩, q, ww3, q, yy q ?_⟩
    refine ⟨by kernel_rfl, ⟨rfl, by show (0 : Int) ≤ 9; omega, by show 9 ≤ (1000000000 : Int); omega⟩, q, ww3, q, yy q ?_⟩
    refine ⟨by kernel_rfl, ⟨rfl, by show (0 : Int) ≤ 9; omega, by show 9 ≤ (1000000000 : Int); omega⟩, q, ww3, q, yy q ?_⟩
    refine ⟨by kernel_rfl, ⟨rfl, by show (0 : Int) ≤ 9; omega, by show 9 ≤ (1000000000 : Int); omega⟩, q, ww3, q, yy q ?_⟩
    refine ⟨by kernel_rfl, ⟨rfl, by show (0 : Int) ≤ 9; omega, by show 9 ≤ (1000000000 : Int); omega⟩, q, ww3, q, yy q ?_⟩
    refine ⟨by kernel_rfl, ⟨rfl, by show (0 : Int) ≤ 9; omega, by show 9 ≤ (1000000000 : Int); omega⟩, q, ww3, q, yy q ?_⟩
    refine ⟨by kernel_rfl, ⟨rfl, by show (0 : Int) ≤ 9; omega, by show 9 ≤ (1000000000 : Int); omega⟩, q, ww3, q, nn q ?_⟩
    refine .inr (yy q ?_)
    refine .inr (yy q ?_)
    refine ⟨by kernel_rfl, q, q, (c 0 q), (c 0 q), q, ww, q, ww, (c 0 q), q, yy q ?_⟩
    refine ⟨by kernel_rfl, q, q, (c 1 q), (c 1 q), q, ww, q, ww, (c 1 q), q, yy q ?_⟩
    refine ⟨by kernel_rfl, q, q, (c 2 q), (c 2 q), q, ww, q, ww, (c 2 q), q, yy q ?_⟩
    refine ⟨by kernel_rfl, q, q, (c 3 q), (c 3 q), q, ww, q, ww, (c 3 q), q, yy q ?_⟩
    refine ⟨by kernel_rfl, q, q, (c 4 q), (c 4 q), q, ww, q, ww, (c 4 q), q, yy q ?_⟩
    refine ⟨by kernel_rfl, q, q, (c 5 q), (c 5 q), q, ww, q, ww, (c 5 q), q, yy q ?_⟩
    refine ⟨by kernel_rfl, q, q, (c 6 q), (c 6 q), q, ww, q, ww, (c 6 q), q, yy q ?_⟩
    refine ⟨by kernel_rfl, q, q, (c 7 q), (c 7 q), q, ww, q, ww, (c 7 q), q, yy q ?_⟩
    refine ⟨by kernel_rfl, q, q, (c 8 q), (c 8 q), q, ww, q, ww, (c 8 q), q, nn q ?_⟩
    refine ⟨q, yy q ?_⟩
    refine .inr (yy q ?_)
    refine ⟨by kernel_rfl, q, q, (c 9 q), (c 9 q), q, ww, q, ww, (c 9 q), q, yy q ?_⟩
    refine ⟨by kernel_rfl, q, q, (c 10 q), (c 10 q), q, ww, q, ww, (c 10 q), q, yy q ?_⟩
    refine ⟨by kernel_rfl, q, q, (c 11 q), (c 11 q), q, ww, q, ww, (c 11 q), q, yy q ?_⟩
    refine ⟨by kernel_rfl, q, q, (c 12 q), (c 12 q), q, ww, q, ww, (c 12 q), q, yy q ?_⟩
    refine ⟨by kernel_rfl, q, q, (c 13 q), (c 13 q), q, ww, q, ww, (c 13 q), q, yy q ?_⟩
    refine ⟨by kernel_rfl, q, q, (c 14 q), (c 14 q), q, ww, q, ww, (c 14 q), q, yy q ?_⟩
    refine ⟨by kernel_rfl, q, q, (c 15 q), (c 15 q), q, ww, q, ww, (c 15 q), q, yy q ?_⟩
    refine ⟨by kernel_rfl, q, q, (c 16 q), (c 16 q), q, ww, q, ww, (c 16 q), q, nn q ?_⟩
    refine ⟨q, yy q ?_⟩
    refine .inr (yy q ?_)
    refine ⟨by kernel_rfl, q, q, (c 17 q), (c 17 q), q, ww, q, ww, (c 17 q), q, yy q ?_⟩
    refine ⟨by kernel_rfl, q, q, (c 18 q), (c 18 q), q, ww, q, ww, (c 18 q), q, yy q ?_⟩
    refine ⟨by kernel_rfl, q, q, (c 19 q), (c 19 q), q, ww, q, ww, (c 19 q), q, yy q ?_⟩
    refine ⟨by kernel_rfl, q, q, (c 20 q), (c 20 q), q, ww, q, ww, (c 20 q), q, yy q ?_⟩
    refine ⟨by kernel_rfl, q, q, (c 21 q), (c 21 q), q, ww, q, ww, (c 21 q), q, yy q ?_⟩
    refine ⟨by kernel_rfl, q, q, (c 22 q), (c 22 q), q, ww, q, ww, (c 22 q), q, yy q ?_⟩
    refine ⟨by kernel_rfl, q, q, (c 23 q), (c 23 q), q, ww, q, ww, (c 23 q), q, nn q ?_⟩
    refine ⟨q, yy q ?_⟩
    refine .inr (yy q ?_)
    refine ⟨by kernel_rfl, q, q, (c 24 q), (c 24 q), q, ww, q, ww, (c 24 q), q, yy q ?_⟩
    refine ⟨by kernel_rfl, q, q, (c 25 q), (c 25 q), q, ww, q, ww, (c 25 q), q, yy q ?_⟩
    refine ⟨by kernel_rfl, q, q, (c 26 q), (c 26 q), q, ww, q, ww, (c 26 q), q, yy q ?_⟩
    refine ⟨by kernel_rfl, q, q, (c 27 q), (c 27 q), q, ww, q, ww, (c 27 q), q, yy q ?_⟩
    refine ⟨by kernel_rfl, q, q, (c 28 q), (c 28 q), q, ww, q, ww, (c 28 q), q, yy q ?_⟩
    refine ⟨by kernel_rfl, q, q, (c 29 q), (c 29 q), q, ww, q, ww, (c 29 q), q, nn q ?_⟩
    refine ⟨q, yy q ?_⟩
    refine .inr (yy q ?_)
    refine ⟨by kernel_rfl, q, q, (c 30 q), (c 30 q), q, ww, q, ww, (c 30 q), q, yy q ?_⟩
    refine ⟨by kernel_rfl, q, q, (c 31 q), (c 31 q), q, ww, q, ww, (c 31 q), q, yy q ?_⟩
    refine ⟨by kernel_rfl, q, q, (c 32 q), (c 32 q), q, ww, q, ww, (c 32 q), q, yy q ?_⟩
    refine ⟨by kernel_rfl, q, q, (c 33 q), (c 33 q), q, ww, q, ww, (c 33 q), q, yy q ?_⟩
    refine ⟨by kernel_rfl, q, q, (c 34 q), (c 34 q), q, ww, q, ww, (c 34 q), q, nn q ?_⟩
    refine ⟨q, yy q ?_⟩
    refine .inr (yy q ?_)
    refine ⟨by kernel_rfl, q, q, (c 35 q), (c 35 q), q, ww, q, ww, (c 35 q), q, yy q ?_⟩
    refine ⟨by kernel_rfl, q, q, (c 36 q), (c 36 q), q, ww, q, ww, (c 36 q), q, yy q ?_⟩
    refine ⟨by kernel_rfl, q, q, (c 37 q), (c 37 q), q, ww, q, ww, (c 37 q), q, yy q ?_⟩
    refine ⟨by kernel_rfl, q, q, (c 38 q), (c 38 q), q, ww, q, ww, (c 38 q), q, nn q ?_⟩
    refine ⟨q, yy q ?_⟩
    refine .inr (yy q ?_)
    refine ⟨by kernel_rfl, q, q, (c 39 q), (c 39 q), q, ww, q, ww, (c 39 q), q, yy q ?_⟩
    refine ⟨by kernel_rfl, q, q, (c 40 q), (c 40 q), q, ww, q, ww, (c 40 q), q, yy q ?_⟩
    refine ⟨by kernel_rfl, q, q, (c 41 q), (c 41 q), q, ww, q, ww, (c 41 q), q, nn q ?_⟩
    refine ⟨q, yy q ?_⟩
    refine .inr (yy q ?_)
    refine ⟨by kernel_rfl, q, q, (c 42 q), (c 42 q), q, ww, q, ww, (c 42 q), q, yy q ?_⟩
    refine ⟨by kernel_rfl, q, q, (c 43 q), (c 43 q), q, ww, q, ww, (c 43 q), q, nn q ?_⟩
    refine ⟨q, yy q ?_⟩
    refine .inr (yy q ?_)
    refine ⟨by kernel_rfl, q, q, (c 44 q), (c 44 q), q, ww, q, ww, (c 44 q), q, nn q ?_⟩
    refine ⟨q, nn q ?_⟩
    refine ⟨⟨rfl, rfl, rfl, Nat.le_of_ble_eq_true rfl⟩, ?_⟩
    exact kr4 (v := .tup [.agg [.int .i64 10, .sl true (.sl .str) (mkD 9 sz.toNat nz)], .int .i64 0]) (by kernel_rfl)
 ·replace h2 : sz < 0 := h2
  omega
end Go.Proofs.YtogipicegdbhdaaDoor.S41

namespace Go.Proofs.YtogipicegdbhdaaDoor.S41
open Go Go.Proofs.YtogipicegdbhdaaDoor.Vc Go.Proofs
set_option maxRecDepth 100000
set_option linter.unusedVariables false

set_option maxHeartbeats 20000000 in
theorem bMk11 (sz : Int) (nz : List UInt8) (hz : 0 ≤ sz) (h1 : sz ≤ 4096) (hl : (nz.length : Int) = sz * ((55 : Nat) : Int)) : bodyP (En CUpd tys G6 [] [1000000, 1000001]) Tryd.f30 [.m 1 .str, .k] [.int .i64 11, .int .i64 sz, .str nz] (.tup [.agg [.int .i64 11, .sl true (.sl .str) (mkD 10 sz.toNat nz)], .int .i64 0]) [] := by
 have c := @cutOk sz nz 55 hz hl
 refine ⟨fun h0 => ?_, fun h0 => absurd h0 (show ¬ ((11 : Int) < 2) by decide)⟩
 refine ⟨fun h1 => ?_, fun h1 => absurd h1 (show ¬ ((12 : Int) < 11) by decide)⟩
 refine ⟨fun h2 => ?_, fun h2 => ?_⟩
 ·replace h2 : ¬ (sz < 0) := h2
  refine ⟨fun h3 => ?_, fun h3 => ?_⟩
  ·replace h3 : 4096 < sz := h3
   omega
  ·replace h3 : ¬ (4096 < sz) := h3
   refine ⟨q, (r64 (sz * 10)), q, (r64 ((sz * 10) * 11)), .inl ⟨⟨by show (0 : Int) ≤ ((sz * 10) * 11); omega, by show (0 : Int) < 2; omega⟩, ?_⟩⟩
   refine ⟨fun h4 => ?_, fun h4 => ?_⟩
   ·replace h4 : (nz.length : Int) ≠ (((sz * 10) * 11) / 2) := h4
    omega
   ·replace h4 : ¬ ((nz.length : Int) ≠ (((sz * 10) * 11) / 2)) := h4
    refine ⟨⟨rfl, by decide, by decide⟩, ⟨rfl, rfl, rfl, Nat.le_of_ble_eq_true rfl⟩, .inr ?_⟩
    refine yy q ?_
    refine ⟨by kernel_rfl, ⟨rfl, by show (0 : Int) ≤ 10; omega, by show 10 ≤ (1000000000 : Int); omega⟩, q, ww3, q, yy q ?_⟩
    refine ⟨by kernel_rfl, ⟨rfl, by show (0 : Int) ≤ 10; omega, by show 10 ≤ (1000000000 : Int); omega⟩, q, ww3, q, yy q ?_⟩
    refine ⟨by kernel_rfl, ⟨rfl, by show (0 : Int) ≤ 10; omega, by show 10 ≤ (1000000000 : Int); omega⟩, q, ww3, q, yy q ?_⟩
    refine ⟨by kernel_rfl, ⟨rfl, by show (0 : Int) ≤ 10; omega, by show 10 ≤ (1000000000 : Int); omega⟩, q, ww3, q, yy q ?_⟩
    refine ⟨by kernel_rfl, ⟨rfl, by show (0 : Int) ≤ 10; omega, by show 10 ≤ (1000000000 : Int); omega⟩, q, ww3, q, yy q ?_⟩
    refine ⟨by kernel_rfl, ⟨rfl, by show (0 : Int) ≤ 10; omega, by show 10 ≤ (1000000000 : Int); omega⟩, q, ww3, q, yy q ?_⟩
    refine ⟨by kernel_rfl, ⟨rfl, by show (0 : Int) ≤ 10; omega, by show 10 ≤ (1000000000 : Int); omega⟩, q, ww3, q, yy q ?_⟩
    refine ⟨by kernel_rfl, ⟨rfl, by show (0 : Int) ≤ 10; omega, by show 10 ≤ (1000000000 : Int); omega⟩, q, ww3, q, yy q ?_⟩
    refine ⟨by kernel_rfl, ⟨rfl, by show (0 : Int) ≤ 10; omega, by show 10 ≤ (1000000000 : Int); omega⟩, q, ww3, q, yy q ?_⟩
    refine ⟨by kernel_rfl, ⟨rfl, by show (0 : Int) ≤ 10; omega, by show 10 ≤ (1000000000 : Int); omega⟩, q, ww3, q, nn q ?_⟩
    refine .inr (yy q ?_)
    refine .inr (yy q ?_)
    refine ⟨by kernel_rfl, q, q, (c 0 q), (c 0 q), q, ww, q, ww, (c 0 q), q, yy q ?_⟩
    refine ⟨by kernel_rfl, q, q, (c 1 q), (c 1 q), q, ww, q, ww, (c 1 q), q, yy q ?_⟩
    refine ⟨by kernel_rfl, q, q, (c 2 q), (c 2 q), q, ww, q, ww, (c 2 q), q, yy q ?_⟩
    refine ⟨by kernel_rfl, q, q, (c 3 q), (c 3 q), q, ww, q, ww, (c 3 q), q, yy q ?_⟩
    refine ⟨by kernel_rfl, q, q, (c 4 q), (c 4 q), q, ww, q, ww, (c 4 q), q, yy q ?_⟩
    refine ⟨by kernel_rfl, q, q, (c 5 q), (c 5 q), q, ww, q, ww, (c 5 q), q, yy q ?_⟩
    refine ⟨by kernel_rfl, q, q, (c 6 q), (c 6 q), q, ww, q, ww, (c 6 q), q, yy q ?_⟩
    refine ⟨by kernel_rfl, q, q, (c 7 q), (c 7 q), q, ww, q, ww, (c 7 q), q, yy q ?_⟩
    refine ⟨by kernel_rfl, q, q, (c 8 q), (c 8 q), q, ww, q, ww, (c 8 q), q, yy q ?_⟩
    refine ⟨by kernel_rfl, q, q, (c 9 q), (c 9 q), q, ww, q, ww, (c 9 q), q, nn q ?_⟩
    refine ⟨q, yy q ?_⟩
    refine .inr (yy q ?_)
    refine ⟨by kernel_rfl, q, q, (c 10 q), (c 10 q), q, ww, q, ww, (c 10 q), q, yy q ?_⟩
    refine ⟨by kernel_rfl, q, q, (c 11 q), (c 11 q), q, ww, q, ww, (c 11 q), q, yy q ?_⟩
    refine ⟨by kernel_rfl, q, q, (c 12 q), (c 12 q), q, ww, q, ww, (c 12 q), q, yy q ?_⟩
    refine ⟨by kernel_rfl, q, q, (c 13 q), (c 13 q), q, ww, q, ww, (c 13 q), q, yy q ?_⟩
    refine ⟨by kernel_rfl, q, q, (c 14 q), (c 14 q), q, ww, q, ww, (c 14 q), q, yy q ?_⟩
    refine ⟨by kernel_rfl, q, q, (c 15 q), (c 15 q), q, ww, q, ww, (c 15 q), q, yy q ?_⟩
    refine ⟨by kernel_rfl, q, q, (c 16 q), (c 16 q), q, ww, q, ww, (c 16 q), q, yy q ?_⟩
    refine ⟨by kernel_rfl, q, q, (c 17 q), (c 17 q), q, ww, q, ww, (c 17 q), q, yy q ?_⟩
    refine ⟨by kernel_rfl, q, q, (c 18 q), (c 18 q), q, ww, q, ww, (c 18 q), q, nn q ?_⟩
    refine ⟨q, yy q ?_⟩
    refine .inr (yy q ?_)
    refine ⟨by kernel_rfl, q, q, (c 19 q), (c 19 q), q, ww, q, ww, (c 19 q), q, yy q ?_⟩
    refine ⟨by kernel_rfl, q, q, (c 20 q), (c 20 q), q, ww, q, ww, (c 20 q), q, yy q ?_⟩
    refine ⟨by kernel_rfl, q, q, (c 21 q), (c 21 q), q, ww, q, ww, (c 21 q), q, yy q ?_⟩
    refine ⟨by kernel_rfl, q, q, (c 22 q), (c 22 q), q, ww, q, ww, (c 22 q), q, yy q ?_⟩
    refine ⟨by kernel_rfl, q, q, (c 23 q), (c 23 q), q, ww, q, ww, (c 23 q), q, yy q ?_⟩
    refine ⟨by kernel_rfl, q, q, (c 24 q), (c 24 q), q, ww, q, ww, (c 24 q), q, yy q ?_⟩
    refine ⟨by kernel_rfl, q, q, (c 25 q), (c 25 q), q, ww, q, ww, (c 25 q), q, yy q ?_⟩
    refine ⟨by kernel_rfl, q, q, (c 26 q), (c 26 q), q, ww, q, ww, (c 26 q), q, nn q ?_⟩
    refine ⟨q, yy q ?_⟩
    refine .inr (yy q ?_)
    refine ⟨by kernel_rfl, q, q, (c 27 q), (c 27 q), q, ww, q, ww, (c 27 q), q, yy q ?_⟩
    refine ⟨by kernel_rfl, q, q, (c 28 q), (c 28 q), q, ww, q, ww, (c 28 q), q, yy q ?_⟩
    refine ⟨by kernel_rfl, q, q, (c 29 q), (c 29 q), q, ww, q, ww, (c 29 q), q, yy q ?_⟩
    refine ⟨by kernel_rfl, q, q, (c 30 q), (c 30 q), q, ww, q, ww, (c 30 q), q, yy q ?_⟩
    refine ⟨by kernel_rfl, q, q, (c 31 q), (c 31 q), q, ww, q, ww, (c 31 q), q, yy q ?_⟩
    refine ⟨by kernel_rfl, q, q, (c 32 q), (c 32 q), q, ww, q, ww, (c 32 q), q, yy q ?_⟩
    refine ⟨by kernel_rfl, q, q, (c 33 q), (c 33 q), q, ww, q, ww, (c 33 q), q, nn q ?_⟩
    refine ⟨q, yy q ?_⟩
    refine .inr (yy q ?_)
    refine ⟨by kernel_rfl, q, q, (c 34 q), (c 34 q), q, ww, q, ww, (c 34 q), q, yy q ?_⟩
    refine ⟨by kernel_rfl, q, q, (c 35 q), (c 35 q), q, ww, q, ww, (c 35 q), q, yy q ?_⟩
    refine ⟨by kernel_rfl, q, q, (c 36 q), (c 36 q), q, ww, q, ww, (c 36 q), q, yy q ?_⟩
    refine ⟨by kernel_rfl, q, q, (c 37 q), (c 37 q), q, ww, q, ww, (c 37 q), q, yy q ?_⟩
    refine ⟨by kernel_rfl, q, q, (c 38 q), (c 38 q), q, ww, q, ww, (c 38 q), q, yy q ?_⟩
    refine ⟨by kernel_rfl, q, q, (c 39 q), (c 39 q), q, ww, q, ww, (c 39 q), q, nn q ?_⟩
    refine ⟨q, yy q ?_⟩
    refine .inr (yy q ?_)
    refine ⟨by kernel_rfl, q, q, (c 40 q), (c 40 q), q, ww, q, ww, (c 40 q), q, yy q ?_⟩
    refine ⟨by kernel_rfl, q, q, (c 41 q), (c 41 q), q, ww, q, ww, (c 41 q), q, yy q ?_⟩
    refine ⟨by kernel_rfl, q, q, (c 42 q), (c 42 q), q, ww, q, ww, (c 42 q), q, yy q ?_⟩
    refine ⟨by kernel_rfl, q, q, (c 43 q), (c 43 q), q, ww, q, ww, (c 43 q), q, yy q ?_⟩
    refine ⟨by kernel_rfl, q, q, (c 44 q), (c 44 q), q, ww, q, ww, (c 44 q), q, nn q ?_⟩
    refine ⟨q, yy q ?_⟩
    refine .inr (yy q ?_)
    refine ⟨by kernel_rfl, q, q, (c 45 q), (c 45 q), q, ww, q, ww, (c 45 q), q, yy q ?_⟩
    refine ⟨by kernel_rfl, q, q, (c 46 q), (c 46 q), q, ww, q, ww, (c 46 q), q, yy q ?_⟩
    refine ⟨by kernel_rfl, q, q, (c 47 q), (c 47 q), q, ww, q, ww, (c 47 q), q, yy q ?_⟩
    refine ⟨by kernel_rfl, q, q, (c 48 q), (c 48 q), q, ww, q, ww, (c 48 q), q, nn q ?_⟩
    refine ⟨q, yy q ?_⟩
    refine .inr (yy q ?_)
    refine ⟨by kernel_rfl, q, q, (c 49 q), (c 49 q), q, ww, q, ww, (c 49 q), q, yy q ?_⟩
    refine ⟨by kernel_rfl, q, q, (c 50 q), (c 50 q), q, ww, q, ww, (c 50 q), q, yy q ?_⟩
    refine ⟨by kernel_rfl, q, q, (c 51 q), (c 51 q), q, ww, q, ww, (c 51 q), q, nn q ?_⟩
    refine ⟨q, yy q ?_⟩
    refine .inr (yy q ?_)
    refine ⟨by kernel_rfl, q, q, (c 52 q), (c 52 q), q, ww, q, ww, (c 52 q), q, yy q ?_⟩
    refine ⟨by kernel_rfl, q, q, (c 53 q), (c 53 q), q, ww, q, ww, (c 53 q), q, nn q ?_⟩
    refine ⟨q, yy q ?_⟩
    refine .inr (yy q ?_)
    refine ⟨by kernel_rfl, q, q, (c 54 q), (c 54 q), q, ww, q, ww, (c 54 q), q, nn q ?_⟩
    refine ⟨q, nn q ?_⟩
    refine ⟨⟨rfl, rfl, rfl, Nat.le_of_ble_eq_true rfl⟩, ?_⟩
    exact kr4 (v := .tup [.agg [.int .i64 11, .sl true (.sl .str) (mkD 10 sz.toNat nz)], .int .i64 0]) (by kernel_rfl)
 ·replace h2 : sz < 0 := h2
  omega
end Go.Proofs.YtogipicegdbhdaaDoor.S41

namespace Go.Proofs.YtogipicegdbhdaaDoor.S41
open Go Go.Proofs.YtogipicegdbhdaaDoor.Vc Go.Proofs
set_option maxRecDepth 100000
set_option linter.unusedVariables false

set_option maxHeartbeats 20000000 in
theorem bMk12 (sz : Int) (nz : List UInt8) (hz : 0 ≤ sz) (h1 : sz ≤ 4096) (hl : (nz.length : Int) = sz * ((66 : Nat) : Int)) : bodyP (En CUpd tys G6 [] [1000000, 1000001]) Tryd.f30 [.m 1 .str, .k] [.int .i64 12, .int .i64 sz, .str nz] (.tup [.agg [.int .i64 12, .sl true (.sl .str) (mkD 11 sz.toNat nz)], .int .i64 0]) [] := by
 have c := @cutOk sz nz 66 hz hl
 refine ⟨fun h0 => ?_, fun h0 => absurd h0 (show ¬ ((12 : Int) < 2) by decide)⟩
 refine ⟨fun h1 => ?_, fun h1 => absurd h1 (show ¬ ((12 : Int) < 12) by decide)⟩
 refine ⟨fun h2 => ?_, fun h2 => ?_⟩
 ·replace h2 : ¬ (sz < 0) := h2
  refine ⟨fun h3 => ?_, fun h3 => ?_⟩
  ·replace h3 : 4096 < sz := h3
   omega
  ·replace h3 : ¬ (4096 < sz) := h3
   refine ⟨q, (r64 (sz * 11)), q, (r64 ((sz * 11) * 12)), .inl ⟨⟨by show (0 : Int) ≤ ((sz * 11) * 12); omega, by show (0 : Int) < 2; omega⟩, ?_⟩⟩
   refine ⟨fun h4 => ?_, fun h4 => ?_⟩
   ·replace h4 : (nz.length : Int) ≠ (((sz * 11) * 12) / 2) := h4
    omega
   ·replace h4 : ¬ ((nz.length : Int) ≠ (((sz * 11) * 12) / 2)) := h4
    refine ⟨⟨rfl, by decide, by decide⟩, ⟨rfl, rfl, rfl, Nat.le_of_ble_eq_true rfl⟩, .inr ?_⟩
    refine yy q ?_
    refine ⟨by kernel_rfl, ⟨rfl, by show (0 : Int) ≤ 11; omega, by show 11 ≤ (1000000000 : Int); omega⟩, q, ww3, q, yy q ?_⟩
    refine ⟨by kernel_rfl, ⟨rfl, by show (0 : Int) ≤ 11; omega, by show 11 ≤ (1000000000 : Int); omega⟩, q, ww3, q, yy q ?_⟩
    refine ⟨by kernel_rfl, ⟨rfl, by show (0 : Int) ≤ 11; omega, by show 11 ≤ (1000000000 : Int); omega⟩, q, ww3, q, yy q ?_⟩
    refine ⟨by kernel_rfl, ⟨rfl, by show (0 : Int) ≤ 11; omega, by show 11 ≤ (1000000000 : Int); omega⟩, q, ww3, q, yy q ?_⟩
    refine ⟨by kernel_rfl, ⟨rfl, by show (0 : Int) ≤ 11; omega, by show 11 ≤ (1000000000 : Int); omega⟩, q, ww3, q, yy q ?_⟩
    refine ⟨by kernel_rfl, ⟨rfl, by show (0 : Int) ≤ 11; omega, by show 11 ≤ (1000000000 : Int); omega⟩, q, ww3, q, yy q ?_⟩
    refine ⟨by kernel_rfl, ⟨rfl, by show (0 : Int) ≤ 11; omega, by show 11 ≤ (1000000000 : Int); omega⟩, q, ww3, q, yy q ?_⟩
    refine ⟨by kernel_rfl, ⟨rfl, by show (0 : Int) ≤ 11; omega, by show 11 ≤ (1000000000 : Int); omega⟩, q, ww3, q, yy q ?_⟩
    refine ⟨by kernel_rfl, ⟨rfl, by show (0 : Int) ≤ 11; omega, by show 11 ≤ (1000000000 : Int); omega⟩, q, ww3, q, yy q ?_⟩
    refine ⟨by kernel_rfl, ⟨rfl, by show (0 : Int) ≤ 11; omega, by show 11 ≤ (1000000000 : Int); omega⟩, q, ww3, q, yy q ?_⟩
    refine ⟨by kernel_rfl, ⟨rfl, by show (0 : Int) ≤ 11; omega, by show 11 ≤ (1000000000 : Int); omega⟩, q, ww3, q, nn q ?_⟩
    refine .inr (yy q ?_)
    refine .inr (yy q ?_)
    refine ⟨by kernel_rfl, q, q, (c 0 q), (c 0 q), q, ww, q, ww, (c 0 q), q, yy q ?_⟩
    refine ⟨by kernel_rfl, q, q, (c 1 q), (c 1 q), q, ww, q, ww, (c 1 q), q, yy q ?_⟩
    refine ⟨by kernel_rfl, q, q, (c 2 q), (c 2 q), q, ww, q, ww, (c 2 q), q, yy q ?_⟩
    refine ⟨by kernel_rfl, q, q, (c 3 q), (c 3 q), q, ww, q, ww, (c 3 q), q, yy q ?_⟩
    refine ⟨by kernel_rfl, q, q, (c 4 q), (c 4 q), q, ww, q, ww, (c 4 q), q, yy q ?_⟩
    refine ⟨by kernel_rfl, q, q, (c 5 q), (c 5 q), q, ww, q, ww, (c 5 q), q, yy q ?_⟩
    refine ⟨by kernel_rfl, q, q, (c 6 q), (c 6 q), q, ww, q, ww, (c 6 q), q, yy q ?_⟩
    refine ⟨by kernel_rfl, q, q, (c 7 q), (c 7 q), q, ww, q, ww, (c 7 q), q, yy q ?_⟩
    refine ⟨by kernel_rfl, q, q, (c 8 q), (c 8 q), q, ww, q, ww, (c 8 q), q, yy q ?_⟩
    refine ⟨by kernel_rfl, q, q, (c 9 q), (c 9 q), q, ww, q, ww, (c 9 q), q, yy q ?_⟩
    refine ⟨by kernel_rfl, q, q, (c 10 q), (c 10 q), q, ww, q, ww, (c 10 q), q, nn q ?_⟩
    refine ⟨q, yy q ?_⟩
    refine .inr (yy q ?_)
    refine ⟨by kernel_rfl, q, q, (c 11 q), (c 11 q), q, ww, q, ww, (c 11 q), q, yy q ?_⟩
    refine ⟨by kernel_rfl, q, q, (c 12 q), (c 12 q), q, ww, q, ww, (c 12 q), q, yy q ?_⟩
    refine ⟨by kernel_rfl, q, q, (c 13 q), (c 13 q), q, ww, q, ww, (c 13 q), q, yy q ?_⟩
    refine ⟨by kernel_rfl, q, q, (c 14 q), (c 14 q), q, ww, q, ww, (c 14 q), q, yy q ?_⟩
    refine ⟨by kernel_rfl, q, q, (c 15 q), (c 15 q), q, ww, q, ww, (c 15 q), q, yy q ?_⟩
    refine ⟨by kernel_rfl, q, q, (c 16 q), (c 16 q), q, ww, q, ww, (c 16 q), q, yy q ?_⟩
    refine ⟨by kernel_rfl, q, q, (c 17 q), (c 17 q), q, ww, q, ww, (c 17 q), q, yy q ?_⟩
    refine ⟨by kernel_rfl, q, q, (c 18 q), (c 18 q), q, ww, q, ww, (c 18 q), q, yy q ?_⟩
    refine ⟨by kernel_rfl, q, q, (c 19 q), (c 19 q), q, ww, q, ww, (c 19 q), q, yy q ?_⟩
    refine ⟨by kernel_rfl, q, q, (c 20 q), (c 20 q), q, ww, q, ww, (c 20 q), q, nn q ?_⟩
    refine ⟨q, yy q ?_⟩
    refine .inr (yy q ?_)
    refine ⟨by kernel_rfl, q, q, (c 21 q), (c 21 q), q, ww, q, ww, (c 21 q), q, yy q ?_⟩
    refine ⟨by kernel_rfl, q, q, (c 22 q), (c 22 q), q, ww, q, ww, (c 22 q), q, yy q ?_⟩
    refine ⟨by kernel_rfl, q, q, (c 23 q), (c 23 q), q, ww, q, ww, (c 23 q), q, yy q ?_⟩
    refine ⟨by kernel_rfl, q, q, (c 24 q), (c 24 q), q, ww, q, ww, (c 24 q), q, yy q ?_⟩
    refine ⟨by kernel_rfl, q, q, (c 25 q), (c 25 q), q, ww, q, ww, (c 25 q), q, yy q ?_⟩
    refine ⟨by kernel_rfl, q, q, (c 26 q), (c 26 q), q, ww, q, ww, (c 26 q), q, yy q ?_⟩
    refine ⟨by kernel_rfl, q, q, (c 27 q), (c 27 q), q, ww, q, ww, (c 27 q), q, yy q ?_⟩
    refine ⟨by kernel_rfl, q, q, (c 28 q), (c 28 q), q, ww, q, ww, (c 28 q), q, yy q ?_⟩
    refine ⟨by kernel_rfl, q, q, (c 29 q), (c 29 q), q, ww, q, ww, (c 29 q), q, nn q ?_⟩
    refine ⟨q, yy q ?_⟩
    refine .inr (yy q ?_)
    refine ⟨by kernel_rfl, q, q, (c 30 q), (c 30 q), q, ww, q, ww, (c 30 q), q, yy q ?_⟩
    refine ⟨by kernel_rfl, q, q, (c 31 q), (c 31 q), q, ww, q, ww, (c 31 q), q, yy q ?_⟩
    refine ⟨by kernel_rfl, q, q, (c 32 q), (c 32 q), q, ww, q, ww, (c 32 q), q, yy q ?_⟩
    refine ⟨by kernel_rfl, q, q, (c 33 q), (c 33 q), q, ww, q, ww, (c 33 q), q, yy q ?_⟩
    refine ⟨by kernel_rfl, q, q, (c 34 q), (c 34 q), q, ww, q, ww, (c 34 q), q, yy q ?_⟩
    refine ⟨by kernel_rfl, q, q, (c 35 q), (c 35 q), q, ww, q, ww, (c 35 q), q, yy q ?_⟩
    refine ⟨by kernel_rfl, q, q, (c 36 q), (c 36 q), q, ww, q, ww, (c 36 q), q, yy q ?_⟩
    refine ⟨by kernel_rfl, q, q, (c 37 q), (c 37 q), q, ww, q, ww, (c 37 q), q, nn q ?_⟩
    refine ⟨q, yy q ?_⟩
    refine .inr (yy q ?_)
    refine ⟨by kernel_rfl, q, q, (c 38 q), (c 38 q), q, ww, q, ww, (c 38 q), q, yy q ?_⟩
    refine ⟨by kernel_rfl, q, q, (c 39 q), (c 39 q), q, ww, q, ww, (c 39 q), q, yy q ?_⟩
    refine ⟨by kernel_rfl, q, q, (c 40 q), (c 40 q), q, ww, q, ww, (c 40 q), q, yy q ?_⟩
    refine ⟨by kernel_rfl, q, q, (c 41 q), (c 41 q), q, ww, q, ww, (c 41 q), q, yy q ?_⟩
    refine ⟨by kernel_rfl, q, q, (c 42 q), (c 42 q), q, ww, q, ww, (c 42 q), q, yy q ?_⟩
    refine ⟨by kernel_rfl, q, q, (c 43 q), (c 43 q), q, ww, q, ww, (c 43 q), q, yy q ?_⟩
    refine ⟨by kernel_rfl, q, q, (c 44 q), (c 44 q), q, ww, q, ww, (c 44 q), q, nn q ?_⟩
    refine ⟨q, yy q ?_⟩
    refine .inr (yy q ?_)
    refine ⟨by kernel_rfl, q, q, (c 45 q), (c 45 q), q, ww, q, ww, (c 45 q), q, yy q ?_⟩
    refine ⟨by kernel_rfl, q, q, (c 46 q), (c 46 q), q, ww, q, ww, (c 46 q), q, yy q ?_⟩
    refine ⟨by kernel_rfl, q, q, (c 47 q), (c 47 q), q, ww, q, ww, (c 47 q), q, yy q ?_⟩
    refine ⟨by kernel_rfl, q, q, (c 48 q), (c 48 q), q, ww, q, ww, (c 48 q), q, yy q ?_⟩
    refine ⟨by kernel_rfl, q, q, (c 49 q), (c 49 q), q, ww, q, ww, (c 49 q), q, yy q ?_⟩
    refine ⟨by kernel_rfl, q, q, (c 50 q), (c 50 q), q, ww, q, ww, (c 50 q), q, nn q ?_⟩
    refine ⟨q, yy q ?_⟩
    refine .inr (yy q ?_)
    refine ⟨by kernel_rfl, q, q, (c 51 q), (c 51 q), q, ww, q, ww, (c 51 q), q, yy q ?_⟩
    refine ⟨by kernel_rfl, q, q, (c 52 q), (c 52 q), q, ww, q, ww, (c 52 q), q, yy q ?_⟩
    refine ⟨by kernel_rfl, q, q, (c 53 q), (c 53 q), q, ww, q, ww, (c 53 q), q, yy q ?_⟩
    refine ⟨by kernel_rfl, q, q, (c 54 q), (c 54 q), q, ww, q, ww, (c 54 q), q, yy q ?_⟩
    refine ⟨by kernel_rfl, q, q, (c 55 q), (c 55 q), q, ww, q, ww, (c 55 q), q, nn q ?_⟩
    refine ⟨q, yy q ?_⟩
    refine .inr (yy q ?_)
    refine ⟨by kernel_rfl, q, q, (c 56 q), (c 56 q), q, ww, q, ww, (c 56 q), q, yy q ?_⟩
    refine ⟨by kernel_rfl, q, q, (c 57 q), (c 57 q), q, ww, q, ww, (c 57 q), q, yy q ?_⟩
    refine ⟨by kernel_rfl, q, q, (c 58 q), (c 58 q), q, ww, q, ww, (c 58 q), q, yy q ?_⟩
    refine ⟨by kernel_rfl, q, q, (c 59 q), (c 59 q), q, ww, q, ww, (c 59 q), q, nn q ?_⟩
    refine ⟨q, yy q ?_⟩
    refine .inr (yy q ?_)
    refine ⟨by kernel_rfl, q, q, (c 60 q), (c 60 q), q, ww, q, ww, (c 60 q), q, yy q ?_⟩
    refine ⟨by kernel_rfl, q, q, (c 61 q), (c 61 q), q, ww, q, ww, (c 61 q), q, yy q ?_⟩
    refine ⟨by kernel_rfl, q, q, (c 62 q), (c 62 q), q, ww, q, ww, (c 62 q), q, nn q ?_⟩
    refine ⟨q, yy q ?_⟩
    refine .inr (yy q ?_)
    refine ⟨by kernel_rfl, q, q, (c 63 q), (c 63 q), q, ww, q, ww, (c 63 q), q, yy q ?_⟩
    refine ⟨by kernel_rfl, q, q, (c 64 q), (c 64 q), q, ww, q, ww, (c 64 q), q, nn q ?_⟩
    refine ⟨q, yy q ?_⟩
    refine .inr (yy q ?_)
    refine ⟨by kernel_rfl, q, q, (c 65 q), (c 65 q), q, ww, q, ww, (c 65 q), q, nn q ?_⟩
    refine ⟨q, nn q ?_⟩
    refine ⟨⟨rfl, rfl, rfl, Nat.le_of_ble_eq_true rfl⟩, ?_⟩
    exact kr4 (v := .tup [.agg [.int .i64 12, .sl true (.sl .str) (mkD 11 sz.toNat nz)], .int .i64 0]) (by kernel_rfl)
 ·replace h2 : sz < 0 := h2
  omega
end Go.Proofs.YtogipicegdbhdaaDoor.S41

namespace Go.Proofs.YtogipicegdbhdaaDoor.S41
open Go Go.Proofs.YtogipicegdbhdaaDoor.Vc Go.Proofs
set_option maxRecDepth 100000
set_option linter.unusedVariables false

def sMk : List V → Option (Prop × V × List Blk)
 | [.int .i64 nd, .int .i64 sz, .str nz] => some (True, .tup [.agg [.int .i64 (mkN nd sz nz), .sl true (.sl .str) (mkC nd sz nz)], .int .i64 (mkE nd sz nz)], [])
 | _ => none
set_option maxHeartbeats 1000000 in
theorem bMk (nd : Int) (sz : Int) (nz : List UInt8)  : bodyP (En CUpd tys G6 [] [1000000, 1000001]) Tryd.f30 [.m 1 .str, .k] [.int .i64 nd, .int .i64 sz, .str nz] (.tup [.agg [.int .i64 (mkN nd sz nz), .sl true (.sl .str) (mkC nd sz nz)], .int .i64 (mkE nd sz nz)]) [] := by
 by_cases hn : nd < 2 ∨ 12 < nd ∨ sz < 0 ∨ 4096 < sz
 ·obtain ⟨e1, e2, e3⟩ := mkE3 (s := nz) hn
  rw [e1, e2, e3]; exact bMk0 nd sz nz hn
 ·by_cases hl : (nz.length : Int) = sz * (((nd - 1) * nd) / 2)
  ·obtain ⟨e1, e2, e3⟩ := mkE0 hn hl
   rw [e1, e2, e3]
   obtain rfl | rfl | rfl | rfl | rfl | rfl | rfl | rfl | rfl | rfl | rfl : nd = 2 ∨ nd = 3 ∨ nd = 4 ∨ nd = 5 ∨ nd = 6 ∨ nd = 7 ∨ nd = 8 ∨ nd = 9 ∨ nd = 10 ∨ nd = 11 ∨ nd = 12 := by omega
   ·exact bMk2 sz nz (by omega) (by omega) (by omega)
   ·exact bMk3 sz nz (by omega) (by omega) (by omega)
   ·exact bMk4 sz nz (by omega) (by omega) (by omega)
   ·exact bMk5 sz nz (by omega) (by omega) (by omega)
   ·exact bMk6 sz nz (by omega) (by omega) (by omega)
   ·exact bMk7 sz nz (by omega) (by omega) (by omega)
   ·exact bMk8 sz nz (by omega) (by omega) (by omega)
   ·exact bMk9 sz nz (by omega) (by omega) (by omega)
   ·exact bMk10 sz nz (by omega) (by omega) (by omega)
   ·exact bMk11 sz nz (by omega) (by omega) (by omega)
   ·exact bMk12 sz nz (by omega) (by omega) (by omega)
  ·obtain ⟨e1, e2, e3⟩ := mkE1 hn hl
   rw [e1, e2, e3]
   obtain ⟨p1, p2, p3⟩ := prod_bd (nd := nd) (sz := sz) (by omega) (by omega) (by omega) (by omega)
   exact bMkN nd sz nz (by omega) (by omega) (by omega) (by omega) p1 p2 (by rw [p3]; exact hl)
def CMk : List (Nat × Con) := (30, pureC [.v (.int .i64), .v (.int .i64), .v .str] sMk) :: CUpd
theorem kMk : Known Tryd.prog (En CMk tys G6 []) := Known.frz0 <| (kUpd.frz [1000000, 1000001]).add Tryd.func30 Tryd.call30 [.m 1 .str, .k] fun ds p v bs h hp => by
 unfold sMk at h
 split at h <;> simp only [Option.some.injEq, Prod.mk.injEq, reduceCtorEq] at h
 obtain ⟨rfl, rfl, rfl⟩ := h
 exact bMk _ _ _
end Go.Proofs.YtogipicegdbhdaaDoor.S41

namespace Go.Proofs.YtogipicegdbhdaaDoor.S41
open Go Go.Proofs.YtogipicegdbhdaaDoor.Vc Go.Proofs
set_option maxRecDepth 100000
def lnA (xk : UInt8) (k : Nat) : List UInt8 → Nat → List UInt8 → List UInt8
 | [], _, p => p
 | x :: rest, i, p => lnA xk k rest (i + 1) (if i ≠ k then prodL p [mulL x (invL (xk ^^^ x)), invL (xk ^^^ x)] else p)
def lnO (xs ys : List UInt8) : Nat → Nat → List UInt8 → List UInt8
 | 0, _, out => out
 | f + 1, k, out => lnO xs ys f (k + 1) (sumL [out, lnA (xs.getD k 0) k xs 0 [ys.getD k 0]])
def lineL (xs ys : List UInt8) : List UInt8 := lnO xs ys xs.length 0 []
theorem lin2_val (z x c : UInt8) : horner z [mulL x c, c] = mulL (z ^^^ x) c := by
 show mulL (mulL 0 z ^^^ c) z ^^^ mulL x c = _
 rw [zero_mul', UInt8.zero_xor, mul_comm' c z, mulL_add]
theorem lnA_keep (z xk : UInt8) (k : Nat) (hz : z = xk) : ∀ (xs : List UInt8) (i : Nat) (p : List UInt8), (∀ m, m < xs.length → i + m ≠ k → xs.getD m 0 ≠ xk) → horner z (lnA xk k xs i p) = horner z p
 | [], i, p, _ => rfl
 | x :: xs, i, p, h => by
  rw [lnA, lnA_keep z xk k hz xs (i + 1) _ fun m hm hne => h (m + 1) (by simpa using hm) (by omega)]
  by_cases hi : i ≠ k
  ·rw [if_pos hi, horner_prod, lin2_val, hz]
   have hx : x ≠ xk := h 0 (by simp) (by omega)
   rw [mul_inv' _ (fun e => hx (xor_zero_iff.1 e).symm), mul_one']
  ·rw [if_neg hi]
theorem lnA_dies (z xk : UInt8) (k : Nat) : ∀ (xs : List UInt8) (i : Nat) (p : List UInt8), (horner z p = 0 → horner z (lnA xk k xs i p) = 0) ∧ ∀ m, m < xs.length → i + m ≠ k → xs.getD m 0 = z → horner z (lnA xk k xs i p) = 0
 | [], i, p => ⟨fun h => h, fun m hm => by simp at hm⟩
 | x :: xs, i, p => by
  rw [lnA]
  obtain ⟨h1, h2⟩ := lnA_dies z xk k xs (i + 1) (if i ≠ k then prodL p [mulL x (invL (xk ^^^ x)), invL (xk ^^^ x)] else p)
  refine ⟨fun h => h1 ?_, fun m hm hne he => ?_⟩
  ·split
   ·rw [horner_prod, h, zero_mul']
   ·exact h
  ·cases m with
   | zero =>
    have he : x = z := he
    refine h1 ?_
    rw [if_pos (by omega), horner_prod, lin2_val, he, UInt8.xor_self, zero_mul', mul_zero']
   | succ m => exact h2 m (by simpa using hm) (by omega) he
theorem lnA_sz (xk : UInt8) (k : Nat) : ∀ (xs : List UInt8) (i : Nat) (p : List UInt8), sz (lnA xk k xs i p) ≤ sz p + xs.length ∧ (i ≤ k → k < i + xs.length → sz (lnA xk k xs i p) + 1 ≤ sz p + xs.length)
 | [], i, p => ⟨Nat.le_refl _, fun h1 h2 => by simp at h2; omega⟩
 | x :: xs, i, p => by
  rw [lnA]
  obtain ⟨h1, h2⟩ := lnA_sz xk k xs (i + 1) (if i ≠ k then prodL p [mulL x (invL (xk ^^^ x)), invL (xk ^^^ x)] else p)
  have h3 := sz_prod_le p [mulL x (invL (xk ^^^ x)), invL (xk ^^^ x)]
  have h4 := sz_len [mulL x (invL (xk ^^^ x)), invL (xk ^^^ x)]
  simp only [List.length_cons, List.length_nil] at h4 ⊢
  by_cases hi : i = k
  ·rw [if_neg (by omega)] at h1 h2 ⊢
   exact ⟨by omega, fun _ _ => by omega⟩
  ·rw [if_pos hi] at h1 h2 ⊢
   exact ⟨by omega, fun h5 h6 => by have := h2 (by omega) (by omega); omega⟩
theorem nodup_inj (xs : List UInt8) (hn : xs.Nodup) (i j : Nat) (hi : i < xs.length) (hj : j < xs.length) (h : xs.getD i 0 = xs.getD j 0) : i = j := by
 simp only [List.getD_eq_getElem?_getD, List.getElem?_eq_getElem hi, List.getElem?_eq_getElem hj, Option.getD_some] at h
 have hp := List.pairwise_iff_getElem.1 hn
 rcases Nat.lt_trichotomy i j with g | g | g
 ·exact absurd h (hp i j hi hj g)
 ·exact g
 ·exact absurd h.symm (hp j i hj hi g)
theorem lnO_val (xs ys : List UInt8) (hn : xs.Nodup) (j : Nat) (hj : j < xs.length) : ∀ (f k : Nat) (out : List UInt8), k + f = xs.length → horner (xs.getD j 0) (lnO xs ys f k out) = horner (xs.getD j 0) out ^^^ (if k ≤ j then ys.getD j 0 else 0)
 | 0, k, out, h => by rw [lnO, if_neg (by omega)]; simp
 | f + 1, k, out, h => by
  rw [lnO, lnO_val xs ys hn j hj f (k + 1) _ (by omega), horner_sum]
  have hne : ∀ m, m < xs.length → m ≠ k → xs.getD m 0 ≠ xs.getD k 0 := fun m hm hmk e => by
   have hk : k < xs.length := by omega
   exact hmk (nodup_inj xs hn m k hm hk e)
  by_cases hjk : j = k
  ·have h1 := lnA_keep (xs.getD j 0) (xs.getD k 0) k (by rw [hjk]) xs 0 [ys.getD k 0] fun m hm hmk => hne m hm (by omega)
   rw [h1, horner_const, if_neg (by omega), if_pos (by omega), hjk]
   simp
  ·have h1 := (lnA_dies (xs.getD j 0) (xs.getD k 0) k xs 0 [ys.getD k 0]).2 j hj (by omega) rfl
   rw [h1]
   by_cases hlt : k ≤ j
   ·rw [if_pos (by omega), if_pos hlt]; simp
   ·rw [if_neg (by omega), if_neg hlt]; simp
theorem lnO_sz (xs ys : List UInt8) : ∀ (f k : Nat) (out : List UInt8), k + f = xs.length → sz out ≤ xs.length → sz (lnO xs ys f k out) ≤ xs.length
 | 0, k, out, _, h => h
 | f + 1, k, out, hk, h => by
  rw [lnO]
  refine lnO_sz xs ys f (k + 1) _ (by omega) (sz_sum_le _ _ _ h ?_)
  have h1 := (lnA_sz (xs.getD k 0) k xs 0 [ys.getD k 0]).2 (Nat.zero_le _) (by omega)
  have h2 := sz_len [ys.getD k 0]
  simp only [List.length_cons, List.length_nil] at h2
  omega
theorem lnO_trim (xs ys : List UInt8) : ∀ (f k : Nat) (out : List UInt8), trimL out = out → trimL (lnO xs ys f k out) = lnO xs ys f k out
 | 0, k, out, h => h
 | f + 1, k, out, _ => lnO_trim xs ys f (k + 1) _ (sum_trim _ _)
theorem lineL_val (xs ys : List UInt8) (hn : xs.Nodup) (j : Nat) (hj : j < xs.length) : horner (xs.getD j 0) (lineL xs ys) = ys.getD j 0 := by
 unfold lineL
 rw [lnO_val xs ys hn j hj _ _ _ (by omega), if_pos (by omega)]
 show 0 ^^^ _ = _
 simp
theorem lineL_sz (xs ys : List UInt8) : sz (lineL xs ys) ≤ xs.length := lnO_sz xs ys _ _ _ (by omega) (Nat.zero_le _)
theorem lineL_trim (xs ys : List UInt8) : trimL (lineL xs ys) = lineL xs ys := lnO_trim xs ys _ _ _ rfl
theorem thr_line (xs ys : List UInt8) (h : rightP xs ys) : thrL xs ys = lineL xs ys := by
 rw [← lineL_trim]
 exact thrL_unique xs ys _ h (lineL_sz xs ys) fun k hk => lineL_val xs ys h.1 k hk
theorem getD_take (l : List UInt8) (n k : Nat) (h : k < n) : (l.take n).getD k 0 = l.getD k 0 := by
 simp [List.getD_eq_getElem?_getD, List.getElem?_take, h]
theorem right_take (a b : List UInt8) (n : Nat) (h : rightP a b) : rightP (a.take n) (b.take n) :=
 ⟨h.1.sublist (List.take_sublist _ _), by rw [List.length_take, List.length_take, h.2]⟩
end Go.Proofs.YtogipicegdbhdaaDoor.S41

namespace Go.Proofs.YtogipicegdbhdaaDoor.S41
open Go Go.Proofs.YtogipicegdbhdaaDoor.Vc Go.Proofs
set_option maxRecDepth 100000
end Go.Proofs.YtogipicegdbhdaaDoor.S41

namespace Go.Proofs.YtogipicegdbhdaaDoor.S41
open Go Go.Proofs.YtogipicegdbhdaaDoor.Vc Go.Proofs
set_option maxRecDepth 100000
theorem tp_len (a b : List UInt8) (d : Int) : (tpL a b d).1.length ≤ 2 * a.length + 3 := by
 unfold tpL
 split
 ·split
  ·simp
  ·split
   ·exact Nat.zero_le _
   ·have := thrL_len a b
    split <;> simp <;> omega
 ·simp
def xs' (f : Nat → UInt8) : Nat → UInt8
 | 0 => 0
 | n + 1 => xs' f n ^^^ f n
def colL (l : Rw) (k : Nat) : List UInt8 := l.map fun s => s.getD k 0
theorem colL_len (l : Rw) (k : Nat) : (colL l k).length = l.length := List.length_map ..
theorem scale_get {c : UInt8} {s : List UInt8} {k : Nat} (h : k < s.length) : (scaleB c s).getD k 0 = mulL c (s.getD k 0) := by
 simp [scaleB, scaleF, List.getD_eq_getElem?_getD, h]
theorem sum_get {a b : List UInt8} {k : Nat} (hl : a.length = b.length) (h : k < a.length) : (sumB a b).getD k 0 = a.getD k 0 ^^^ b.getD k 0 := by
 unfold sumB
 rw [if_neg (by omega)]
 simp [sumF, sumG, List.getD_eq_getElem?_getD, h, hl ▸ h]
theorem ext_get {a b : List UInt8} {N : Nat} (ha : a.length = N) (hb : b.length = N) (h : ∀ k, k < N → a.getD k 0 = b.getD k 0) : a = b := by
 apply List.ext_getElem (by omega)
 intro i h1 h2
 have := h i (by omega)
 simpa [List.getD_eq_getElem?_getD, h1, h2] using this
theorem at_len {x : UInt8} {N : Nat} : ∀ (l : Rw), 1 ≤ l.length → (∀ s ∈ l, s.length = N) → (atL l x).length = N
 | [], h, _ => by simp at h
 | [s], _, h => h s (by simp)
 | s :: t :: r, _, h => by
  rw [atL, sum_len, scale_len, at_len (t :: r) (by simp) fun y hy => h y (by simp [hy]), h s (by simp)]
  omega
theorem at_get {x : UInt8} {N k : Nat} (hk : k < N) : ∀ (l : Rw), 1 ≤ l.length → (∀ s ∈ l, s.length = N) → (atL l x).getD k 0 = horner x (colL l k)
 | [], h, _ => by simp at h
 | [s], _, h => by
  show s.getD k 0 = mulL 0 x ^^^ s.getD k 0
  rw [zero_mul']; simp
 | s :: t :: r, _, h => by
  have hl := at_len (x := x) (t :: r) (by simp) fun y hy => h y (by simp [hy])
  have hs := h s (by simp)
  rw [atL, sum_get (by rw [scale_len]; omega) (by rw [scale_len]; omega), scale_get (by omega), at_get hk (t :: r) (by simp) fun y hy => h y (by simp [hy]), mul_comm']
  rfl
theorem row_len {nd : Int} {cf : List Rw} (h : Deal nd cf) (x : Int) : ∀ s ∈ rowD cf x, s.length = n00 cf := fun s hs => by
 obtain ⟨l, hl, rfl⟩ := List.mem_map.1 hs
 have := h.rows l hl
 have h2 := h.n2
 have h3 := h.len
 exact at_len l (by omega) (h.strs l hl)
theorem row_get {nd : Int} {cf : List Rw} (h : Deal nd cf) (x : Int) (i : Nat) (hi : i < cf.length) : (rowD cf x).getD i [] = atL (cf.getD i []) (pt x) := by
 simp [rowD, List.getD_eq_getElem?_getD, hi]
theorem pt_nat {h : Nat} (hh : h < 12) : (pt (h : Int)).toNat = h + 1 := by
 unfold pt
 rw [show (((h : Int) + 1) % 256).toNat = h + 1 by omega]
 simp; omega
end Go.Proofs.YtogipicegdbhdaaDoor.S41

namespace Go.Proofs.YtogipicegdbhdaaDoor.S41
open Go Go.Proofs.YtogipicegdbhdaaDoor.Vc Go.Proofs
set_option maxRecDepth 100000

/-! ### lists of shares -/
def smB (s : (Int × List UInt8 × Unit)) : Bool := decide (s.2.1.length ≤ 4096)
def lnS (l : List (Int × List UInt8 × Unit)) : Nat := (l.getD 0 (0, [], ())).2.1.length
def okP (l : List (Int × List UInt8 × Unit)) (k : Nat) : Prop := knw (l.getD k (0, [], ())).1 ∧ (k = 0 ∨ (l.getD (k - 1) (0, [], ())).1 < (l.getD k (0, [], ())).1) ∧ (l.getD k (0, [], ())).2.1.length = lnS l
instance (l : List (Int × List UInt8 × Unit)) (k : Nat) : Decidable (okP l k) := by unfold okP; infer_instance
def okS (l : List (Int × List UInt8 × Unit)) (k : Nat) : Bool := decide (okP l k)
def chkE (l : List (Int × List UInt8 × Unit)) : Int := if 12 < l.length ∨ l.all smB = false then 2 else if (List.range l.length).all (okS l) = true then 0 else 1
structure ShOk (l : List (Int × List UInt8 × Unit)) : Prop where
 len : l.length ≤ 12
 max : lnS l ≤ 4096
 bytes : ∀ s ∈ l, s.2.1.length = lnS l
 house : ∀ s ∈ l, knw s.1
 up : ∀ k, k + 1 < l.length → (l.getD k (0, [], ())).1 < (l.getD (k + 1) (0, [], ())).1
theorem chk2 {l : List (Int × List UInt8 × Unit)} (h : 12 < l.length ∨ l.all smB = false) : chkE l = 2 := if_pos h
theorem chk1 {l : List (Int × List UInt8 × Unit)} (h1 : ¬ 12 < l.length) (h2 : ¬ l.all smB = false) {k : Nat} (hk : k < l.length) (h : ¬ okP l k) : chkE l = 1 := by
 unfold chkE
 rw [if_neg (fun e => e.elim h1 h2), if_neg]
 rw [rangeBad hk (show okS l k = false from decide_eq_false h)]; decide
theorem chk0' {l : List (Int × List UInt8 × Unit)} (h1 : ¬ 12 < l.length) (h2 : ¬ l.all smB = false) (h : (List.range l.length).all (okS l) = true) : chkE l = 0 := by
 unfold chkE
 rw [if_neg (fun e => e.elim h1 h2), if_pos h]
theorem chk0 {l : List (Int × List UInt8 × Unit)} (h : chkE l = 0) : ShOk l := by
 unfold chkE at h
 split at h
 ·cases h
 ·rename_i h1
  split at h
  ·rename_i h2
   have h3 : ∀ k, k < l.length → okP l k := fun k hk => of_decide_eq_true (List.all_eq_true.1 h2 k (List.mem_range.2 hk))
   have h4 : ∀ s ∈ l, s.2.1.length ≤ 4096 := fun s hs => of_decide_eq_true (all_false (fun e => h1 (.inr e)) s hs)
   refine ⟨Nat.le_of_not_lt fun e => h1 (.inl e), ?_, fun s hs => ?_, fun s hs => ?_, fun k hk => ?_⟩
   ·rcases Nat.eq_zero_or_pos l.length with g | g
    ·have := List.eq_nil_of_length_eq_zero g; subst this; simp [lnS]
    ·exact h4 _ (getD_mem (0, [], ()) l 0 g)
   ·obtain ⟨k, hk, rfl⟩ := getD_mem' (d := (0, [], ())) hs
    exact (h3 k hk).2.2
   ·obtain ⟨k, hk, rfl⟩ := getD_mem' (d := (0, [], ())) hs
    exact (h3 k hk).1
   ·have := (h3 (k + 1) hk).2.1
    rcases this with g | g
    ·omega
    ·simpa using g
  ·cases h
theorem ok_next {l : List (Int × List UInt8 × Unit)} {k : Nat} (h : ∀ j, j < k → okS l j = true) (hk : okS l k = true) : ∀ j, j < k + 1 → okS l j = true := fun j hj => by
 rcases Nat.lt_or_eq_of_le (Nat.le_of_lt_succ hj) with g | g
 ·exact h j g
 ·rw [g]; exact hk
theorem chk0'' {l : List (Int × List UInt8 × Unit)} {k : Nat} (h1 : ¬ 12 < l.length) (h2 : ¬ l.all smB = false) (h : ∀ j, j < k → okS l j = true) (hk : l.length ≤ k) : chkE l = 0 :=
 chk0' h1 h2 (List.all_eq_true.2 fun j hj => h j (by have := List.mem_range.1 hj; omega))
theorem okS_yes {l : List (Int × List UInt8 × Unit)} {k : Nat} (h1 : knw (l.getD k (0, [], ())).1) (h2 : k = 0 ∨ ¬ (l.getD k (0, [], ())).1 ≤ (l.getD ((k : Int) - 1).toNat (0, [], ())).1) (h3 : ¬ (((l.getD k (0, [], ())).2.1.length : Nat) : Int) ≠ (((l.getD 0 (0, [], ())).2.1.length : Nat) : Int)) : okS l k = true := by
 refine decide_eq_true ⟨h1, ?_, by unfold lnS; omega⟩
 rcases h2 with h | h
 ·exact .inl h
 ·rw [show ((k : Int) - 1).toNat = k - 1 by omega] at h; exact .inr (by omega)
/-- Where the first one stands that is too large. -/
def ixF (l : List (Int × List UInt8 × Unit)) : Int := if l.all smB = true then -1 else ((l.takeWhile smB).length : Int)
theorem takeWhile_at {α : Type} {p : α → Bool} {d : α} : ∀ {l : List α} {k : Nat}, k < l.length → (l.take k).all p = true → p (l.getD k d) = false → (l.takeWhile p).length = k
 | [], k, h, _, _ => by simp at h
 | x :: l, 0, _, _, h => by
  have h : p x = false := h
  simp [List.takeWhile, h]
 | x :: l, k + 1, hk, ha, h => by
  simp only [List.take_succ_cons, List.all_cons, Bool.and_eq_true] at ha
  rw [List.takeWhile_cons, if_pos ha.1, List.length_cons, takeWhile_at (by simpa using hk) ha.2 (by simpa using h)]
theorem take_all {α : Type} {p : α → Bool} {d : α} {l : List α} {k : Nat} (hk : k < l.length) (h : (l.take k).all p = true) (hp : p (l.getD k d) = true) : (l.take (k + 1)).all p = true := by
 rw [takeD d l k hk, List.all_append, h]; show (true && (p (l.getD k d) && true)) = true; rw [hp]; rfl
theorem take_bad {α : Type} {p : α → Bool} {d : α} {l : List α} {k : Nat} (hk : k < l.length) (hp : p (l.getD k d) = false) : l.all p = false := by
 rw [List.all_eq_false]
 exact ⟨_, getD_mem d l k hk, by rw [hp]; decide⟩
theorem ixF_at {l : List (Int × List UInt8 × Unit)} {k : Nat} (hk : k < l.length) (hc : (l.take k).all smB = true) (h : smB (l.getD k (0, [], ())) = false) : ixF l = (k : Int) := by
 unfold ixF
 rw [if_neg (by rw [take_bad hk h]; decide), takeWhile_at hk hc h]
theorem ixF_all {l : List (Int × List UInt8 × Unit)} {k : Nat} (hk : l.length ≤ k) (hc : (l.take k).all smB = true) : ixF l = -1 := by
 rw [List.take_of_length_le hk] at hc
 exact if_pos hc
theorem ixF_ge (l : List (Int × List UInt8 × Unit)) : 0 ≤ ixF l ↔ l.all smB = false := by
 unfold ixF
 split
 ·rename_i h; rw [h]; constructor <;> intro g
  ·omega
  ·cases g
 ·rename_i h; exact ⟨fun _ => by simpa using h, fun _ => by omega⟩

/-! ### columns -/
def xsL (l : List (Int × List UInt8 × Unit)) : List UInt8 := l.map fun s => pt s.1
def ysL (l : List (Int × List UInt8 × Unit)) (k : Nat) : List UInt8 := l.map fun s => s.2.1.getD k 0
theorem xsL_len (l : List (Int × List UInt8 × Unit)) : (xsL l).length = l.length := List.length_map ..
theorem ysL_len (l : List (Int × List UInt8 × Unit)) (k : Nat) : (ysL l k).length = l.length := List.length_map ..
def xF (l : List (Int × List UInt8 × Unit)) (i : Nat) : UInt8 := pt (l.getD i (0, [], ())).1
def yF (l : List (Int × List UInt8 × Unit)) (k : Nat) (i : Nat) : UInt8 := (l.getD i (0, [], ())).2.1.getD k 0
theorem range_get {α β : Type} (d : α) (f : α → β) (l : List α) : (List.range l.length).map (fun i => f (l.getD i d)) = l.map f := by
 apply List.ext_getElem
 ·simp
 ·intro i h1 h2
  simp at h2
  simp [List.getElem?_eq_getElem h2]
theorem xs_fill (l : List (Int × List UInt8 × Unit)) : fillF (xF l) l.length l.length = xsL l := by rw [fill_all]; exact range_get (0, [], ()) (fun s => pt s.1) l
theorem ys_fill (l : List (Int × List UInt8 × Unit)) (k : Nat) : fillF (yF l k) l.length l.length = ysL l k := by rw [fill_all]; exact range_get (0, [], ()) (fun s => s.2.1.getD k 0) l

/-! ### a splitting -/
def hsP (hs : List Int) (k : Nat) : Prop := knw (hs.getD k 0) ∧ (k = 0 ∨ hs.getD (k - 1) 0 < hs.getD k 0)
instance (hs : List Int) (k : Nat) : Decidable (hsP hs k) := by unfold hsP; infer_instance
def hsB (hs : List Int) (k : Nat) : Bool := decide (hsP hs k)
def hsOk (hs : List Int) : Bool := (List.range hs.length).all (hsB hs)
def splE (sec : List UInt8) (nd : Int) (hs : List Int) (nz : List UInt8) : Int :=
 if 4096 < sec.length then 2 else if nd < 1 ∨ 12 < nd then 3 else if (hs.length : Int) < nd then 1 else if hsOk hs = false then 1 else if (nz.length : Int) = (sec.length : Int) * (nd - 1) then 0 else 1
/-- The coefficients of a byte. -/
def cfs (nz : List UInt8) (n m k : Nat) : List UInt8 := (List.range m).map fun a => nz.getD (a * n + k) 0
def accL (nz : List UInt8) (n m : Nat) (x : UInt8) (j : Nat) : List UInt8 := (List.range n).map fun k => mulL (horner x ((cfs nz n m k).drop j)) x
def shB (sec nz : List UInt8) (m : Nat) (x : UInt8) : List UInt8 := (List.range sec.length).map fun k => horner x (sec.getD k 0 :: cfs nz sec.length m k)
def shS (sec : List UInt8) (nd : Int) (nz : List UInt8) (h : Int) : (Int × List UInt8 × Unit) := (h, shB sec nz (nd - 1).toNat (pt h), ())
def splL (sec : List UInt8) (nd : Int) (hs : List Int) (nz : List UInt8) : List (Int × List UInt8 × Unit) := if splE sec nd hs nz = 0 then hs.map (shS sec nd nz) else []
theorem cfs_len (nz : List UInt8) (n m k : Nat) : (cfs nz n m k).length = m := by simp [cfs]
theorem cfs_get {nz : List UInt8} {n m k a : Nat} (h : a < m) : (cfs nz n m k).getD a 0 = nz.getD (a * n + k) 0 := by
 simp [cfs, List.getElem?_map, List.getElem?_range h]
theorem acc_len (nz : List UInt8) (n m : Nat) (x : UInt8) (j : Nat) : (accL nz n m x j).length = n := by simp [accL]
theorem shB_len (sec nz : List UInt8) (m : Nat) (x : UInt8) : (shB sec nz m x).length = sec.length := by simp [shB]
theorem map_range_get {f : Nat → UInt8} {n k : Nat} (h : k < n) : ((List.range n).map f).getD k 0 = f k := by
 simp [List.getElem?_map, List.getElem?_range h]
theorem acc_top (nz : List UInt8) (n m : Nat) (x : UInt8) : accL nz n m x m = List.replicate n 0 := by
 apply ext_get (acc_len ..) (List.length_replicate ..)
 intro k hk
 rw [accL, map_range_get hk, List.drop_of_length_le (by rw [cfs_len]; exact Nat.le_refl _), horner, zero_mul']
 simp [hk]
theorem acc_step {nz : List UInt8} {n m : Nat} {x : UInt8} {j : Nat} (hj : j < m) (hn : nz.length = n * m) {c : List UInt8} (hc : c = (nz.drop (j * n)).take n) : scaleB x (sumB (accL nz n m x (j + 1)) c) = accL nz n m x j := by
 have hle : (j + 1) * n ≤ nz.length := by rw [hn, Nat.mul_comm n m]; exact Nat.mul_le_mul_right n hj
 have hcl : c.length = n := by rw [hc, List.length_take, List.length_drop]; rw [Nat.succ_mul] at hle; omega
 have hsl : (sumB (accL nz n m x (j + 1)) c).length = n := by rw [sum_len, acc_len, hcl]; omega
 refine ext_get (by rw [scale_len, hsl]) (acc_len ..) fun k hk => ?_
 rw [scale_get (by omega), sum_get (by rw [acc_len, hcl]) (by rw [acc_len]; exact hk)]
 unfold accL
 rw [map_range_get hk, map_range_get hk, horner_drop x (cfs nz n m k) j (by rw [cfs_len]; exact hj), cfs_get hj, mul_comm' x]
 have : c.getD k 0 = nz.getD (j * n + k) 0 := by
  rw [hc, List.getD_eq_getElem?_getD, List.getD_eq_getElem?_getD, List.getElem?_take, if_pos hk, List.getElem?_drop]
 rw [this]
theorem acc_end {sec nz : List UInt8} {m : Nat} {x : UInt8} : sumB (accL nz sec.length m x 0) sec = shB sec nz m x := by
 refine ext_get (by rw [sum_len, acc_len]; omega) (shB_len ..) fun k hk => ?_
 rw [sum_get (acc_len ..) (by rw [acc_len]; exact hk)]
 unfold accL shB
 rw [map_range_get hk, map_range_get hk, List.drop_zero]
 rfl

def outL (sec : List UInt8) (nd : Int) (hs : List Int) (nz : List UInt8) (k : Nat) : List (Int × List UInt8 × Unit) := (List.range hs.length).map fun i => if i < k then shS sec nd nz (hs.getD i 0) else (0, [], ())
theorem out_len (sec : List UInt8) (nd : Int) (hs : List Int) (nz : List UInt8) (k : Nat) : (outL sec nd hs nz k).length = hs.length := by simp [outL]
theorem out_zero (sec : List UInt8) (nd : Int) (hs : List Int) (nz : List UInt8) : outL sec nd hs nz 0 = List.replicate hs.length (0, [], ()) := by
 apply List.ext_getElem
 ·simp [outL]
 ·intro i h1 h2; simp [outL]
theorem out_set {sec : List UInt8} {nd : Int} {hs : List Int} {nz : List UInt8} {k : Nat} (h : k < hs.length) {x : (Int × List UInt8 × Unit)} (hx : x = shS sec nd nz (hs.getD k 0)) : (outL sec nd hs nz k).set k x = outL sec nd hs nz (k + 1) := by
 subst hx
 apply List.ext_getElem
 ·simp [outL]
 ·intro i h1 h2
  rw [List.getElem_set]
  simp only [outL, List.getElem_map, List.getElem_range]
  by_cases e : k = i
  ·subst e; simp
  ·rw [if_neg e]
   by_cases g : i < k
   ·rw [if_pos g, if_pos (by omega)]
   ·rw [if_neg g, if_neg (by omega)]
theorem out_all {sec : List UInt8} {nd : Int} {hs : List Int} {nz : List UInt8} {k : Nat} (h : hs.length ≤ k) : outL sec nd hs nz k = hs.map (shS sec nd nz) := by
 rw [← range_get 0 (shS sec nd nz) hs]
 apply List.map_congr_left
 intro i hi
 rw [List.mem_range] at hi
 rw [if_pos (by omega)]
theorem hs_next {l : List Int} {k : Nat} (h : ∀ j, j < k → hsB l j = true) (hk : hsB l k = true) : ∀ j, j < k + 1 → hsB l j = true := fun j hj => by
 rcases Nat.lt_or_eq_of_le (Nat.le_of_lt_succ hj) with g | g
 ·exact h j g
 ·rw [g]; exact hk
theorem hs_all {l : List Int} {k : Nat} (h : ∀ j, j < k → hsB l j = true) (hk : l.length ≤ k) : hsOk l = true := List.all_eq_true.2 fun j hj => h j (by have := List.mem_range.1 hj; omega)
theorem hs_bad {l : List Int} {k : Nat} (h : ¬ hsP l k) (hk : k < l.length) : hsOk l = false := rangeBad hk (show hsB l k = false from decide_eq_false h)
theorem hs_get {l : List Int} (h : hsOk l = true) {k : Nat} (hk : k < l.length) : knw (l.getD k 0) ∧ (k = 0 ∨ l.getD (k - 1) 0 < l.getD k 0) := of_decide_eq_true (List.all_eq_true.1 h k (List.mem_range.2 hk))
theorem hs_yes {l : List Int} {k : Nat} (h1 : knw (l.getD k 0)) (h2 : k = 0 ∨ ¬ l.getD k 0 ≤ l.getD ((k : Int) - 1).toNat 0) : hsB l k = true := by
 refine decide_eq_true ⟨h1, ?_⟩
 rcases h2 with h | h
 ·exact .inl h
 ·rw [show ((k : Int) - 1).toNat = k - 1 by omega] at h; exact .inr (by omega)
theorem mul_bd {a b : Int} {A B : Nat} (ha : 0 ≤ a) (hA : a ≤ A) (hb : 0 ≤ b) (hB : b ≤ B) : 0 ≤ a * b ∧ a * b ≤ ((A * B : Nat) : Int) := by
 obtain ⟨x, rfl⟩ := Int.eq_ofNat_of_zero_le ha
 obtain ⟨y, rfl⟩ := Int.eq_ofNat_of_zero_le hb
 have := Nat.mul_le_mul (Int.ofNat_le.1 hA) (Int.ofNat_le.1 hB)
 rw [← Int.natCast_mul]
 exact ⟨Int.natCast_nonneg _, Int.ofNat_le.2 this⟩

/-! ### what joins -/
def jnE (l : List (Int × List UInt8 × Unit)) (nd : Int) : Int := if (l.length : Int) < nd then 29 else if (List.range (lnS l)).all (fun k => decide ((tpL (xsL l) (ysL l k) (nd - 1)).2 = 0)) = true then 0 else 14
def jnK (l : List (Int × List UInt8 × Unit)) (nd : Int) (x : UInt8) (k : Nat) : List UInt8 := (List.range k).map fun i => horner x (tpL (xsL l) (ysL l i) (nd - 1)).1
def jnS (l : List (Int × List UInt8 × Unit)) (nd : Int) (x : UInt8) : List UInt8 := if jnE l nd = 0 then jnK l nd x (lnS l) else []
theorem jnK_len (l : List (Int × List UInt8 × Unit)) (nd : Int) (x : UInt8) (k : Nat) : (jnK l nd x k).length = k := by simp [jnK]
theorem jnK_snoc (l : List (Int × List UInt8 × Unit)) (nd : Int) (x : UInt8) (k : Nat) : jnK l nd x (k + 1) = jnK l nd x k ++ [horner x (tpL (xsL l) (ysL l k) (nd - 1)).1] := by unfold jnK; rw [List.range_succ, List.map_append]; rfl
def rdE (l : List (Int × List UInt8 × Unit)) (nd : Int) : Int := if chkE l = 0 then (if nd < 1 ∨ 12 < nd then 3 else 0) else chkE l
theorem rd0 {l : List (Int × List UInt8 × Unit)} {nd : Int} (h : rdE l nd = 0) : chkE l = 0 ∧ 1 ≤ nd ∧ nd ≤ 12 := by
 unfold rdE at h
 split at h
 ·rename_i h1
  split at h
  ·cases h
  ·exact ⟨h1, by omega, by omega⟩
 ·rename_i h1; exact absurd h h1
def joE (l : List (Int × List UInt8 × Unit)) (nd : Int) : Int := if rdE l nd = 0 then jnE l nd else rdE l nd
def joS (l : List (Int × List UInt8 × Unit)) (nd : Int) (x : UInt8) : List UInt8 := if rdE l nd = 0 then jnS l nd x else []
def ftN (l : List (Int × List UInt8 × Unit)) (nd : Int) (s : List UInt8) : Int := if rdE l nd = 0 ∧ s.length ≤ 4096 ∧ (l.length = 0 ∨ lnS l = s.length) ∧ 0 ≤ nd - 1 - (l.length : Int) then (nd - 1 - (l.length : Int)) * (s.length : Int) else 0
def ftP (l : List (Int × List UInt8 × Unit)) (nd : Int) (s : List UInt8) : Prop := rdE l nd = 0 ∧ s.length ≤ 4096 ∧ (l.length = 0 ∨ lnS l = s.length) ∧ (0 ≤ nd - 1 - (l.length : Int) ∨ (jnE l nd = 0 ∧ jnS l nd 0 = s))
instance (l : List (Int × List UInt8 × Unit)) (nd : Int) (s : List UInt8) : Decidable (ftP l nd s) := by unfold ftP; infer_instance
theorem jn29 {l : List (Int × List UInt8 × Unit)} {nd : Int} (h : (l.length : Int) < nd) : jnE l nd = 29 := if_pos h
theorem jn14 {l : List (Int × List UInt8 × Unit)} {nd : Int} (h : ¬ (l.length : Int) < nd) {k : Nat} (hk : k < lnS l) (hb : (tpL (xsL l) (ysL l k) (nd - 1)).2 ≠ 0) : jnE l nd = 14 := by
 unfold jnE
 rw [if_neg h, if_neg]
 rw [rangeBad hk (decide_eq_false hb)]
 decide
theorem jn0 {l : List (Int × List UInt8 × Unit)} {nd : Int} (h : ¬ (l.length : Int) < nd) (ha : ∀ k, k < lnS l → (tpL (xsL l) (ysL l k) (nd - 1)).2 = 0) : jnE l nd = 0 := by
 unfold jnE
 rw [if_neg h, if_pos (List.all_eq_true.2 fun k hk => decide_eq_true (ha k (List.mem_range.1 hk)))]
theorem jnS0 {l : List (Int × List UInt8 × Unit)} {nd : Int} {x : UInt8} (h : jnE l nd = 0) : jnS l nd x = jnK l nd x (lnS l) := if_pos h
theorem jnSn {l : List (Int × List UInt8 × Unit)} {nd : Int} {x : UInt8} (h : jnE l nd ≠ 0) : jnS l nd x = [] := if_neg h
theorem up_next {P : Nat → Prop} {k : Nat} (h : ∀ j, j < k → P j) (hk : P k) : ∀ j, j < k + 1 → P j := fun j hj => by
 rcases Nat.lt_or_eq_of_le (Nat.le_of_lt_succ hj) with g | g
 ·exact h j g
 ·rw [g]; exact hk

end Go.Proofs.YtogipicegdbhdaaDoor.S41

namespace Go.Proofs.YtogipicegdbhdaaDoor.S41
open Go Go.Proofs.YtogipicegdbhdaaDoor.Vc Go.Proofs
set_option maxRecDepth 100000
set_option linter.unusedVariables false

def sZCk1 : List V → Option (Prop × V × List Blk)
 | [.agg [.int .i64 h, .str s]] => some (True, .b (smB (h, s, ()) = false), [])
 | _ => none
set_option maxHeartbeats 1000000 in
theorem bZCk1 (h : Int) (s : List UInt8)  : bodyP (En CMk tys G6 []) Tryd.f96 [.k] [.agg [.int .i64 h, .str s]] (.b (smB (h, s, ()) = false)) [] := by
 exact ⟨rfl, rfl, congrArg V.b (propext (by show _ ↔ decide (s.length ≤ 4096) = false; rw [decide_eq_false_iff_not]; constructor <;> intro g <;> omega)), rfl⟩
def CZCk1 : List (Nat × Con) := (96, pureC [.v (.cons (.int .i64) (.cons .str .nil))] sZCk1) :: CMk
theorem kZCk1 : Known Tryd.prog (En CZCk1 tys G6 []) := kMk.add Tryd.func96 Tryd.call96 [.k] fun ds p v bs h hp => by
 unfold sZCk1 at h
 split at h <;> simp only [Option.some.injEq, Prod.mk.injEq, reduceCtorEq] at h
 obtain ⟨rfl, rfl, rfl⟩ := h
 exact bZCk1 _ _
set_option maxHeartbeats 1000000 in
theorem bIxf0 (l : List (Int × (List UInt8 × Unit))) (hp0 : l.length ≤ 1048576) : bodyP (En CZCk1 tys G6 []) Tryd.f111 [.k] [.sl false (.cons (.int .i64) (.cons .str .nil)) l, .fn 96 []] (.int .i64 (ixF l)) [] := by
 refine ⟨0, [(0, .k), (1, .k), (7, .k), (8, .k)], fun nM vs H => ∃ (k : Nat), k ≤ l.length ∧ (l.take k).all smB = true ∧ nM = l.length - k ∧ vs = [.sl false (.cons (.int .i64) (.cons .str .nil)) l, .fn 96 [], .int .i64 (l.length : Int), .int .i64 (k : Int)] ∧ H = [], ⟨rfl, l.length, 0, by omega, rfl, by omega, rfl, rfl⟩, ?_⟩
 rintro nM vs H ⟨k, hc1_0, hc1_1, rfl, rfl, rfl⟩
 refine ⟨fun h0 => ?_, fun h0 => ?_⟩
 ·replace h0 : (k : Int) < (l.length : Int) := h0
  have hk : k < l.length := by omega
  refine ⟨(i0 (k : Int) (l.length : Int)), rfl, trivial, fun h1 => ?_, fun h1 => ?_⟩
  ·replace h1 : smB (((l.getD k (0, ([], ()))).1), (((l.getD k (0, ([], ()))).2).1), ()) = false := h1
   rw [ixF_at hk hc1_1 h1]
   exact ⟨rfl, rfl, rfl, rfl⟩
  ·replace h1 : ¬ (smB (((l.getD k (0, ([], ()))).1), (((l.getD k (0, ([], ()))).2).1), ()) = false) := h1
   have hok : smB (l.getD k (0, [], ())) = true := by simpa using h1
   refine ⟨(r64 ((k : Int) + 1)), ?_⟩
   exact ⟨rfl, l.length - (k + 1), by omega, k + 1, by omega, take_all hk hc1_1 hok, rfl, rfl, rfl⟩
 ·replace h0 : ¬ ((k : Int) < (l.length : Int)) := h0
  rw [ixF_all (by omega) hc1_1]
  exact ⟨rfl, rfl, rfl, rfl⟩
def sIxf : List V → Option (Prop × V × List Blk)
 | [.sl false (.cons (.int .i64) (.cons .str .nil)) l, .fn 96 []] => some (l.length ≤ 1048576, .int .i64 (ixF l), [])
 | _ => none
def CIxf : List (Nat × Con) := (111, pureC [.v (.sl (.cons (.int .i64) (.cons .str .nil))), .fn [(96, [])]] sIxf) :: CZCk1
theorem kIxf : Known Tryd.prog (En CIxf tys G6 []) := kZCk1.add Tryd.func111 Tryd.call111 [.k] fun ds p v bs h hp => by
 unfold sIxf at h
 split at h <;> simp only [Option.some.injEq, Prod.mk.injEq, reduceCtorEq] at h
 ·obtain ⟨rfl, rfl, rfl⟩ := h
  exact bIxf0 _ hp
set_option maxHeartbeats 1000000 in
theorem bCtf0 (l : List (Int × (List UInt8 × Unit))) (hp0 : l.length ≤ 1048576) : bodyP (En CIxf tys G6 []) Tryd.f95 [.k] [.sl false (.cons (.int .i64) (.cons .str .nil)) l, .fn 96 []] (.b (l.all smB = false)) [] := by
 refine ⟨by show l.length ≤ 1048576; first | omega | assumption, ?_⟩
 exact ⟨rfl, rfl, congrArg V.b (propext (ixF_ge l)), rfl⟩
def sCtf : List V → Option (Prop × V × List Blk)
 | [.sl false (.cons (.int .i64) (.cons .str .nil)) l, .fn 96 []] => some (l.length ≤ 1048576, .b (l.all smB = false), [])
 | _ => none
def CCtf : List (Nat × Con) := (95, pureC [.v (.sl (.cons (.int .i64) (.cons .str .nil))), .fn [(96, [])]] sCtf) :: CIxf
theorem kCtf : Known Tryd.prog (En CCtf tys G6 []) := kIxf.add Tryd.func95 Tryd.call95 [.k] fun ds p v bs h hp => by
 unfold sCtf at h
 split at h <;> simp only [Option.some.injEq, Prod.mk.injEq, reduceCtorEq] at h
 ·obtain ⟨rfl, rfl, rfl⟩ := h
  exact bCtf0 _ hp
def sZHou : List V → Option (Prop × V × List Blk)
 | [.int .i64 h] => some (True, .b (knw h), [])
 | _ => none
set_option maxHeartbeats 1000000 in
theorem bZHou (h : Int)  : bodyP (En CCtf tys G6 []) Tryd.f44 [.k] [.int .i64 h] (.b (knw h)) [] := by
 refine ⟨fun h0 => ?_, fun h0 => ?_⟩
 ·replace h0 : 0 ≤ h := h0
  exact ⟨rfl, rfl, congrArg V.b (propext (by unfold knw; constructor <;> intro g <;> first | omega | exact Bool.noConfusion g | (exfalso; omega))), rfl⟩
 ·replace h0 : ¬ (0 ≤ h) := h0
  exact ⟨rfl, rfl, congrArg V.b (propext (by unfold knw; constructor <;> intro g <;> first | omega | exact Bool.noConfusion g | (exfalso; omega))), rfl⟩
def CZHou : List (Nat × Con) := (44, pureC [.v (.int .i64)] sZHou) :: CCtf
theorem kZHou : Known Tryd.prog (En CZHou tys G6 []) := kCtf.add Tryd.func44 Tryd.call44 [.k] fun ds p v bs h hp => by
 unfold sZHou at h
 split at h <;> simp only [Option.some.injEq, Prod.mk.injEq, reduceCtorEq] at h
 obtain ⟨rfl, rfl, rfl⟩ := h
 exact bZHou _
def sZPoi : List V → Option (Prop × V × List Blk)
 | [.int .i64 h] => some (0 ≤ h ∧ h < 1000000, .u8 (pt h), [])
 | _ => none
set_option maxHeartbeats 1000000 in
theorem bZPoi (h : Int) (hp0 : 0 ≤ h) (hp1 : h < 1000000) : bodyP (En CZHou tys G6 []) Tryd.f46 [.k] [.int .i64 h] (.u8 (pt h)) [] := by
 refine ⟨(r64 (h + 1)), ?_⟩
 exact ⟨rfl, rfl, rfl, rfl⟩
def CZPoi : List (Nat × Con) := (46, pureC [.v (.int .i64)] sZPoi) :: CZHou
theorem kZPoi : Known Tryd.prog (En CZPoi tys G6 []) := kZHou.add Tryd.func46 Tryd.call46 [.k] fun ds p v bs h hp => by
 unfold sZPoi at h
 split at h <;> simp only [Option.some.injEq, Prod.mk.injEq, reduceCtorEq] at h
 obtain ⟨rfl, rfl, rfl⟩ := h
 exact bZPoi _ hp.1 hp.2
def sZChk : List V → Option (Prop × V × List Blk)
 | [.sl false (.cons (.int .i64) (.cons .str .nil)) l] => some (l.length ≤ 1048576, .int .i64 (chkE l), [])
 | _ => none
set_option maxHeartbeats 1000000 in
theorem bZChk (l : List (Int × (List UInt8 × Unit))) (hp0 : l.length ≤ 1048576) : bodyP (En CZPoi tys G6 []) Tryd.f76 [.k] [.sl false (.cons (.int .i64) (.cons .str .nil)) l] (.int .i64 (chkE l)) [] := by
 refine ⟨fun h0 => ?_, fun h0 => ?_⟩
 ·replace h0 : ¬ (12 < (l.length : Int)) := h0
  refine ⟨by show l.length ≤ 1048576; first | omega | assumption, fun h1 => ?_, fun h1 => ?_⟩
  ·replace h1 : l.all smB = false := h1
   rw [chk2 (.inr h1)]
   exact ⟨rfl, rfl, rfl, rfl⟩
  ·replace h1 : ¬ (l.all smB = false) := h1
   refine ⟨0, [(0, .k), (12, .k), (13, .k), (14, .k)], fun nM vs H => ∃ (k : Nat), k ≤ l.length ∧ (∀ j, j < k → okS l j = true) ∧ nM = l.length - k ∧ vs = [.sl false (.cons (.int .i64) (.cons .str .nil)) l, .sl false (.cons (.int .i64) (.cons .str .nil)) l, .int .i64 (l.length : Int), .int .i64 (k : Int)] ∧ H = [], ⟨rfl, l.length, 0, by omega, fun j h => absurd h (Nat.not_lt_zero j), by omega, rfl, rfl⟩, ?_⟩
   rintro nM vs H ⟨k, hc1_0, hc1_1, rfl, rfl, rfl⟩
   refine ⟨fun h2 => ?_, fun h2 => ?_⟩
   ·replace h2 : (k : Int) < (l.length : Int) := h2
    have hk : k < l.length := by omega
    refine ⟨(i0 (k : Int) (l.length : Int)), ⟨rfl, rfl, rfl, Nat.le_of_ble_eq_true rfl⟩, by kernel_rfl, rfl, trivial, fun h3 => ?_, fun h3 => ?_⟩
    ·replace h3 : ¬ (¬ (knw ((l.getD k (0, ([], ()))).1))) := h3
     refine ⟨fun h4 => ?_, fun h4 => absurd h4 (show ¬ (¬ (knw ((l.getD k (0, ([], ()))).1))) by first | omega | assumption | simp_all)⟩
     refine ⟨fun h5 => ?_, fun h5 => absurd h5 (show ¬ (¬ (knw ((l.getD k (0, ([], ()))).1))) by first | omega | assumption | simp_all)⟩
     refine ⟨fun h6 => ?_, fun h6 => ?_⟩
     ·replace h6 : 0 < (k : Int) := h6
      refine ⟨fun h7 => ?_, fun h7 => absurd (show 0 < (k : Int) by first | omega | assumption | simp_all) h7⟩
      refine ⟨fun h8 => ?_, fun h8 => absurd (show 0 < (k : Int) by first | omega | assumption | simp_all) h8⟩
      refine ⟨(r64 ((k : Int) - 1)), fun h9 => ?_, fun h9 => absurd (show 0 < (k : Int) by first | omega | assumption | simp_all) h9⟩
      refine ⟨(i0 ((k : Int) - 1) (l.length : Int)), fun h10 => ?_, fun h10 => absurd (show 0 < (k : Int) by first | omega | assumption | simp_all) h10⟩
      refine ⟨fun h11 => ?_, fun h11 => absurd (show 0 < (k : Int) by first | omega | assumption | simp_all) h11⟩
      refine ⟨fun h12 => ?_, fun h12 => absurd (show 0 < (k : Int) by first | omega | assumption | simp_all) h12⟩
      refine ⟨fun h13 => ?_, fun h13 => absurd (show 0 < (k : Int) by first | omega | assumption | simp_all) h13⟩
      refine ⟨fun h14 => ?_, fun h14 => absurd (show 0 < (k : Int) by first | omega | assumption | simp_all) h14⟩
      refine ⟨fun h15 => ?_, fun h15 => absurd h15 (show ¬ (¬ (knw ((l.getD k (0, ([], ()))).1))) by first | omega | assumption | simp_all)⟩
      refine ⟨fun h16 => ?_, fun h16 => absurd (show 0 < (k : Int) by first | omega | assumption | simp_all) h16⟩
      refine ⟨fun h17 => absurd h17 (show ¬ (¬ (knw ((l.getD k (0, ([], ()))).1))) by first | omega | assumption | simp_all), fun h17 => ?_⟩
      refine ⟨fun h18 => ?_, fun h18 => ?_⟩
      ·replace h18 : ¬ (((l.getD k (0, ([], ()))).1) ≤ ((l.getD (((k : Int) - 1).toNat) (0, ([], ()))).1)) := h18
       refine ⟨fun h19 => ?_, fun h19 => absurd h19 (show ¬ (((l.getD k (0, ([], ()))).1) ≤ ((l.getD (((k : Int) - 1).toNat) (0, ([], ()))).1)) by first | omega | assumption | simp_all)⟩
       refine ⟨fun h20 => ?_, fun h20 => absurd h20 (show ¬ (((l.getD k (0, ([], ()))).1) ≤ ((l.getD (((k : Int) - 1).toNat) (0, ([], ()))).1)) by first | omega | assumption | simp_all)⟩
       refine ⟨fun h21 => ?_, fun h21 => absurd h21 (show ¬ (((l.getD k (0, ([], ()))).1) ≤ ((l.getD (((k : Int) - 1).toNat) (0, ([], ()))).1)) by first | omega | assumption | simp_all)⟩
       refine ⟨fun h22 => ?_, fun h22 => absurd h22 (show ¬ (((l.getD k (0, ([], ()))).1) ≤ ((l.getD (((k : Int) - 1).toNat) (0, ([], ()))).1)) by first | omega | assumption | simp_all)⟩
       refine ⟨(i0 0 (l.length : Int)), fun h23 => ?_, fun h23 => absurd h23 (show ¬ (((l.getD k (0, ([], ()))).1) ≤ ((l.getD (((k : Int) - 1).toNat) (0, ([], ()))).1)) by first | omega | assumption | simp_all)⟩
       refine ⟨fun h24 => ?_, fun h24 => absurd h24 (show ¬ (((l.getD k (0, ([], ()))).1) ≤ ((l.getD (((k : Int) - 1).toNat) (0, ([], ()))).1)) by first | omega | assumption | simp_all)⟩
       refine ⟨fun h25 => ?_, fun h25 => absurd h25 (show ¬ (((l.getD k (0, ([], ()))).1) ≤ ((l.getD (((k : Int) - 1).toNat) (0, ([], ()))).1)) by first | omega | assumption | simp_all)⟩
       refine ⟨fun h26 => ?_, fun h26 => absurd h26 (show ¬ (((l.getD k (0, ([], ()))).1) ≤ ((l.getD (((k : Int) - 1).toNat) (0, ([], ()))).1)) by first | omega | assumption | simp_all)⟩
       refine ⟨fun h27 => absurd h27 (show ¬ (((l.getD k (0, ([], ()))).1) ≤ ((l.getD (((k : Int) - 1).toNat) (0, ([], ()))).1)) by first | omega | assumption | simp_all), fun h27 => ?_⟩
       refine ⟨fun h28 => ?_, fun h28 => ?_⟩
       ·replace h28 : (((((l.getD k (0, ([], ()))).2).1).length : Nat) : Int) ≠ (((((l.getD 0 (0, ([], ()))).2).1).length : Nat) : Int) := h28
        have e : chkE l = 1 := chk1 (by omega) h1 hk (fun g => by have := g.2.2; unfold lnS at this; omega)
        rw [e]
        exact ⟨rfl, rfl, rfl, rfl⟩
       ·replace h28 : ¬ ((((((l.getD k (0, ([], ()))).2).1).length : Nat) : Int) ≠ (((((l.getD 0 (0, ([], ()))).2).1).length : Nat) : Int)) := h28
        have hok := okS_yes (l := l) (Classical.not_not.1 h3) (.inr h18) h28
        refine ⟨(r64 ((k : Int) + 1)), ?_⟩
        exact ⟨rfl, l.length - (k + 1), by omega, k + 1, by omega, ok_next hc1_1 hok, rfl, rfl, rfl⟩
      ·replace h18 : ((l.getD k (0, ([], ()))).1) ≤ ((l.getD (((k : Int) - 1).toNat) (0, ([], ()))).1) := h18
       refine ⟨fun h29 => absurd (show ((l.getD k (0, ([], ()))).1) ≤ ((l.getD (((k : Int) - 1).toNat) (0, ([], ()))).1) by first | omega | assumption | simp_all) h29, fun h29 => ?_⟩
       refine ⟨fun h30 => absurd (show ((l.getD k (0, ([], ()))).1) ≤ ((l.getD (((k : Int) - 1).toNat) (0, ([], ()))).1) by first | omega | assumption | simp_all) h30, fun h30 => ?_⟩
       refine ⟨fun h31 => absurd (show ((l.getD k (0, ([], ()))).1) ≤ ((l.getD (((k : Int) - 1).toNat) (0, ([], ()))).1) by first | omega | assumption | simp_all) h31, fun h31 => ?_⟩
       refine ⟨fun h32 => absurd (show ((l.getD k (0, ([], ()))).1) ≤ ((l.getD (((k : Int) - 1).toNat) (0, ([], ()))).1) by first | omega | assumption | simp_all) h32, fun h32 => ?_⟩
       refine ⟨fun h33 => absurd (show ((l.getD k (0, ([], ()))).1) ≤ ((l.getD (((k : Int) - 1).toNat) (0, ([], ()))).1) by first | omega | assumption | simp_all) h33, fun h33 => ?_⟩
       refine ⟨fun h34 => absurd (show ((l.getD k (0, ([], ()))).1) ≤ ((l.getD (((k : Int) - 1).toNat) (0, ([], ()))).1) by first | omega | assumption | simp_all) h34, fun h34 => ?_⟩
       refine ⟨fun h35 => absurd (show ((l.getD k (0, ([], ()))).1) ≤ ((l.getD (((k : Int) - 1).toNat) (0, ([], ()))).1) by first | omega | assumption | simp_all) h35, fun h35 => ?_⟩
       refine ⟨fun h36 => absurd (show ((l.getD k (0, ([], ()))).1) ≤ ((l.getD (((k : Int) - 1).toNat) (0, ([], ()))).1) by first | omega | assumption | simp_all) h36, fun h36 => ?_⟩
       refine ⟨fun h37 => ?_, fun h37 => absurd (show ((l.getD k (0, ([], ()))).1) ≤ ((l.getD (((k : Int) - 1).toNat) (0, ([], ()))).1) by first | omega | assumption | simp_all) h37⟩
       have e : chkE l = 1 := chk1 (by omega) h1 hk (fun g => by rw [show ((k : Int) - 1).toNat = k - 1 by omega] at h18; have := g.2.1; omega)
       rw [e]
       exact ⟨rfl, rfl, rfl, rfl⟩
     ·replace h6 : ¬ (0 < (k : Int)) := h6
      refine ⟨fun h38 => absurd h38 (show ¬ (0 < (k : Int)) by first | omega | assumption | simp_all), fun h38 => ?_⟩
      refine ⟨fun h39 => absurd h39 (show ¬ (0 < (k : Int)) by first | omega | assumption | simp_all), fun h39 => ?_⟩
      refine ⟨fun h40 => absurd h40 (show ¬ (0 < (k : Int)) by first | omega | assumption | simp_all), fun h40 => ?_⟩
      refine ⟨fun h41 => absurd h41 (show ¬ (0 < (k : Int)) by first | omega | assumption | simp_all), fun h41 => ?_⟩
      refine ⟨fun h42 => absurd h42 (show ¬ (0 < (k : Int)) by first | omega | assumption | simp_all), fun h42 => ?_⟩
      refine ⟨fun h43 => absurd h43 (show ¬ (0 < (k : Int)) by first | omega | assumption | simp_all), fun h43 => ?_⟩
      refine ⟨fun h44 => absurd h44 (show ¬ (0 < (k : Int)) by first | omega | assumption | simp_all), fun h44 => ?_⟩
      refine ⟨fun h45 => absurd h45 (show ¬ (0 < (k : Int)) by first | omega | assumption | simp_all), fun h45 => ?_⟩
      refine ⟨fun h46 => ?_, fun h46 => absurd h46 (show ¬ (¬ (knw ((l.getD k (0, ([], ()))).1))) by first | omega | assumption | simp_all)⟩
      refine ⟨fun h47 => absurd h47 (show ¬ (0 < (k : Int)) by first | omega | assumption | simp_all), fun h47 => ?_⟩
      refine ⟨fun h48 => absurd h48 (show ¬ (¬ (knw ((l.getD k (0, ([], ()))).1))) by first | omega | assumption | simp_all), fun h48 => ?_⟩
      refine ⟨(i0 0 (l.length : Int)), fun h49 => ?_, fun h49 => ?_⟩
      ·replace h49 : (((((l.getD k (0, ([], ()))).2).1).length : Nat) : Int) ≠ (((((l.getD 0 (0, ([], ()))).2).1).length : Nat) : Int) := h49
       have e : chkE l = 1 := chk1 (by omega) h1 hk (fun g => by have := g.2.2; unfold lnS at this; omega)
       rw [e]
       exact ⟨rfl, rfl, rfl, rfl⟩
      ·replace h49 : ¬ ((((((l.getD k (0, ([], ()))).2).1).length : Nat) : Int) ≠ (((((l.getD 0 (0, ([], ()))).2).1).length : Nat) : Int)) := h49
       have hok := okS_yes (l := l) (Classical.not_not.1 h3) (.inl (by omega)) h49
       refine ⟨(r64 ((k : Int) + 1)), ?_⟩
       exact ⟨rfl, l.length - (k + 1), by omega, k + 1, by omega, ok_next hc1_1 hok, rfl, rfl, rfl⟩
    ·replace h3 : ¬ (knw ((l.getD k (0, ([], ()))).1)) := h3
     refine ⟨fun h50 => absurd (show ¬ (knw ((l.getD k (0, ([], ()))).1)) by first | omega | assumption | simp_all) h50, fun h50 => ?_⟩
     refine ⟨fun h51 => absurd (show ¬ (knw ((l.getD k (0, ([], ()))).1)) by first | omega | assumption | simp_all) h51, fun h51 => ?_⟩
     refine ⟨fun h52 => absurd (show ¬ (knw ((l.getD k (0, ([], ()))).1)) by first | omega | assumption | simp_all) h52, fun h52 => ?_⟩
     refine ⟨fun h53 => ?_, fun h53 => absurd (show ¬ (knw ((l.getD k (0, ([], ()))).1)) by first | omega | assumption | simp_all) h53⟩
     have e : chkE l = 1 := chk1 (by omega) h1 hk (fun g => h3 g.1)
     rw [e]
     exact ⟨rfl, rfl, rfl, rfl⟩
   ·replace h2 : ¬ ((k : Int) < (l.length : Int)) := h2
    rw [chk0'' (by omega) h1 hc1_1 (by omega)]
    exact ⟨rfl, rfl, rfl, rfl⟩
 ·replace h0 : 12 < (l.length : Int) := h0
  rw [chk2 (.inl (by omega))]
  exact ⟨rfl, rfl, rfl, rfl⟩
def CZChk : List (Nat × Con) := (76, pureC [.v (.sl (.cons (.int .i64) (.cons .str .nil)))] sZChk) :: CZPoi
theorem kZChk : Known Tryd.prog (En CZChk tys G6 []) := kZPoi.add Tryd.func76 Tryd.call76 [.k] fun ds p v bs h hp => by
 unfold sZChk at h
 split at h <;> simp only [Option.some.injEq, Prod.mk.injEq, reduceCtorEq] at h
 obtain ⟨rfl, rfl, rfl⟩ := h
 exact bZChk _ hp
end Go.Proofs.YtogipicegdbhdaaDoor.S41

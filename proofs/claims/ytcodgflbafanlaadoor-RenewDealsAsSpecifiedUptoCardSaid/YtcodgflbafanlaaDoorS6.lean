/- Texts of this claim: S27d.N11. -/
import Derived.Test.YtcodgflbafanlaaDoorS2
set_option linter.unusedVariables false
set_option linter.unusedSimpArgs false
namespace Go.Proofs.YtcodgflbafanlaaDoor.S27
open Go Go.Proofs.YtcodgflbafanlaaDoor.Vc Go.Proofs
set_option maxRecDepth 100000
set_option linter.unusedVariables false

set_option maxHeartbeats 20000000 in
theorem bRk12 (sz : Int) (nz : List UInt8) (hz : 0 ≤ sz) (hs4 : sz ≤ 4096) (hl : (nz.length : Int) = sz * ((66 : Nat) : Int)) : bodyP (En CRfl tys G6 QPrs [1000000, 1000001]) Tryd.f7 [.k, .n .str, .k] [.int .i64 12, .int .i64 sz, .str nz] (.agg [.int .i64 12, .sl true (.sl .str) (mkR 11 sz nz), .int .i64 0]) [] := by
  have c := @frC sz nz 66 hz hl
  have f := @frR sz hz hs4
  refine ⟨fun h0 => ?_, fun h0 => absurd h0 (show ¬ ((12 : Int) < 2) by decide)⟩
  refine ⟨fun h1 => ?_, fun h1 => absurd h1 (show ¬ ((12 : Int) < 12) by decide)⟩
  refine ⟨fun h2 => ?_, fun h2 => ?_⟩
  · replace h2 : ¬ (sz < 0) := h2
    refine ⟨fun h3 => ?_, fun h3 => ?_⟩
    · replace h3 : 4096 < sz := h3
      omega
    · replace h3 : ¬ (4096 < sz) := h3
      refine ⟨q, ⟨by show (-9223372036854775808 : Int) ≤ (sz * 11); omega, by show (sz * 11) ≤ (9223372036854775807 : Int); omega⟩, q, ⟨by show (-9223372036854775808 : Int) ≤ ((sz * 11) * 12); omega, by show ((sz * 11) * 12) ≤ (9223372036854775807 : Int); omega⟩, .inl ⟨⟨by show (0 : Int) ≤ ((sz * 11) * 12); omega, by show (0 : Int) < 2; omega⟩, ?_⟩⟩
      refine ⟨fun h4 => ?_, fun h4 => ?_⟩
      · replace h4 : (nz.length : Int) ≠ (((sz * 11) * 12) / 2) := h4
        omega
      · replace h4 : ¬ ((nz.length : Int) ≠ (((sz * 11) * 12) / 2)) := h4
        refine ⟨⟨rfl, rfl, rfl, Nat.le_of_ble_eq_true rfl⟩, .inr ?_⟩
        refine yy q ?_
        refine ⟨by kernel_rfl, ⟨rfl, by show (0 : Int) ≤ 11; omega, by show 11 ≤ (1000000000 : Int); omega⟩, ww3, ww3, q, yy q ?_⟩
        refine ⟨by kernel_rfl, ⟨rfl, by show (0 : Int) ≤ 11; omega, by show 11 ≤ (1000000000 : Int); omega⟩, ⟨rfl, rfl, rfl, rfl, rfl, rfl⟩, ww3, q, yy q ?_⟩
        refine ⟨by kernel_rfl, ⟨rfl, by show (0 : Int) ≤ 11; omega, by show 11 ≤ (1000000000 : Int); omega⟩, ⟨rfl, rfl, rfl, rfl, rfl, rfl⟩, ww3, q, yy q ?_⟩
        refine ⟨by kernel_rfl, ⟨rfl, by show (0 : Int) ≤ 11; omega, by show 11 ≤ (1000000000 : Int); omega⟩, ⟨rfl, rfl, rfl, rfl, rfl, rfl⟩, ww3, q, yy q ?_⟩
        refine ⟨by kernel_rfl, ⟨rfl, by show (0 : Int) ≤ 11; omega, by show 11 ≤ (1000000000 : Int); omega⟩, ⟨rfl, rfl, rfl, rfl, rfl, rfl⟩, ww3, q, yy q ?_⟩
        refine ⟨by kernel_rfl, ⟨rfl, by show (0 : Int) ≤ 11; omega, by show 11 ≤ (1000000000 : Int); omega⟩, ⟨rfl, rfl, rfl, rfl, rfl, rfl⟩, ww3, q, yy q ?_⟩
        refine ⟨by kernel_rfl, ⟨rfl, by show (0 : Int) ≤ 11; omega, by show 11 ≤ (1000000000 : Int); omega⟩, ⟨rfl, rfl, rfl, rfl, rfl, rfl⟩, ww3, q, yy q ?_⟩
        refine ⟨by kernel_rfl, ⟨rfl, by show (0 : Int) ≤ 11; omega, by show 11 ≤ (1000000000 : Int); omega⟩, ⟨rfl, rfl, rfl, rfl, rfl, rfl⟩, ww3, q, yy q ?_⟩
        refine ⟨by kernel_rfl, ⟨rfl, by show (0 : Int) ≤ 11; omega, by show 11 ≤ (1000000000 : Int); omega⟩, ⟨rfl, rfl, rfl, rfl, rfl, rfl⟩, ww3, q, yy q ?_⟩
        refine ⟨by kernel_rfl, ⟨rfl, by show (0 : Int) ≤ 11; omega, by show 11 ≤ (1000000000 : Int); omega⟩, ⟨rfl, rfl, rfl, rfl, rfl, rfl⟩, ww3, q, yy q ?_⟩
        refine ⟨by kernel_rfl, ⟨rfl, by show (0 : Int) ≤ 11; omega, by show 11 ≤ (1000000000 : Int); omega⟩, ⟨rfl, rfl, rfl, rfl, rfl, rfl⟩, ww3, q, nn q ?_⟩
        refine .inr (yy q ?_)
        refine .inr (yy q ?_)
        refine ⟨(f 1 q), (c 0 q), q, q, ww, q, q, ww, (f 1 q), q, yy q ?_⟩
        refine ⟨(f 2 q), (c 1 q), q, q, ww, q, q, ww, (f 2 q), q, yy q ?_⟩
        refine ⟨(f 3 q), (c 2 q), q, q, ww, q, q, ww, (f 3 q), q, yy q ?_⟩
        refine ⟨(f 4 q), (c 3 q), q, q, ww, q, q, ww, (f 4 q), q, yy q ?_⟩
        refine ⟨(f 5 q), (c 4 q), q, q, ww, q, q, ww, (f 5 q), q, yy q ?_⟩
        refine ⟨(f 6 q), (c 5 q), q, q, ww, q, q, ww, (f 6 q), q, yy q ?_⟩
        refine ⟨(f 7 q), (c 6 q), q, q, ww, q, q, ww, (f 7 q), q, yy q ?_⟩
        refine ⟨(f 8 q), (c 7 q), q, q, ww, q, q, ww, (f 8 q), q, yy q ?_⟩
        refine ⟨(f 9 q), (c 8 q), q, q, ww, q, q, ww, (f 9 q), q, yy q ?_⟩
        refine ⟨(f 10 q), (c 9 q), q, q, ww, q, q, ww, (f 10 q), q, yy q ?_⟩
        refine ⟨(f 11 q), (c 10 q), q, q, ww, q, q, ww, (f 11 q), q, nn q ?_⟩
        refine ⟨q, yy q ?_⟩
        refine .inr (yy q ?_)
        refine ⟨(f 12 q), (c 11 q), q, q, ww, q, q, ww, (f 12 q), q, yy q ?_⟩
        refine ⟨(f 13 q), (c 12 q), q, q, ww, q, q, ww, (f 13 q), q, yy q ?_⟩
        refine ⟨(f 14 q), (c 13 q), q, q, ww, q, q, ww, (f 14 q), q, yy q ?_⟩
        refine ⟨(f 15 q), (c 14 q), q, q, ww, q, q, ww, (f 15 q), q, yy q ?_⟩
        refine ⟨(f 16 q), (c 15 q), q, q, ww, q, q, ww, (f 16 q), q, yy q ?_⟩
        refine ⟨(f 17 q), (c 16 q), q, q, ww, q, q, ww, (f 17 q), q, yy q ?_⟩
        refine ⟨(f 18 q), (c 17 q), q, q, ww, q, q, ww, (f 18 q), q, yy q ?_⟩
        refine ⟨(f 19 q), (c 18 q), q, q, ww, q, q, ww, (f 19 q), q, yy q ?_⟩
        refine ⟨(f 20 q), (c 19 q), q, q, ww, q, q, ww, (f 20 q), q, yy q ?_⟩
        refine ⟨(f 21 q), (c 20 q), q, q, ww, q, q, ww, (f 21 q), q, nn q ?_⟩
        refine ⟨q, yy q ?_⟩
        refine .inr (yy q ?_)
        refine ⟨(f 22 q), (c 21 q), q, q, ww, q, q, ww, (f 22 q), q, yy q ?_⟩
        refine ⟨(f 23 q), (c 22 q), q, q, ww, q, q, ww, (f 23 q), q, yy q ?_⟩
        refine ⟨(f 24 q), (c 23 q), q, q, ww, q, q, ww, (f 24 q), q, yy q ?_⟩
        refine ⟨(f 25 q), (c 24 q), q, q, ww, q, q, ww, (f 25 q), q, yy q ?_⟩
        refine ⟨(f 26 q), (c 25 q), q, q, ww, q, q, ww, (f 26 q), q, yy q ?_⟩
        refine ⟨(f 27 q), (c 26 q), q, q, ww, q, q, ww, (f 27 q), q, yy q ?_⟩
        refine ⟨(f 28 q), (c 27 q), q, q, ww, q, q, ww, (f 28 q), q, yy q ?_⟩
        refine ⟨(f 29 q), (c 28 q), q, q, ww, q, q, ww, (f 29 q), q, yy q ?_⟩
        refine ⟨(f 30 q), (c 29 q), q, q, ww, q, q, ww, (f 30 q), q, nn q ?_⟩
        refine ⟨q, yy q ?_⟩
        refine .inr (yy q ?_)
        refine ⟨(f 31 q), (c 30 q), q, q, ww, q, q, ww, (f 31 q), q, yy q ?_⟩
        refine ⟨(f 32 q), (c 31 q), q, q, ww, q, q, ww, (f 32 q), q, yy q ?_⟩
        refine ⟨(f 33 q), (c 32 q), q, q, ww, q, q, ww, (f 33 q), q, yy q ?_⟩
        refine ⟨(f 34 q), (c 33 q), q, q, ww, q, q, ww, (f 34 q), q, yy q ?_⟩
        refine ⟨(f 35 q), (c 34 q), q, q, ww, q, q, ww, (f 35 q), q, yy q ?_⟩
        refine ⟨(f 36 q), (c 35 q), q, q, ww, q, q, ww, (f 36 q), q, yy q ?_⟩
        refine ⟨(f 37 q), (c 36 q), q, q, ww, q, q, ww, (f 37 q), q, yy q ?_⟩
        refine ⟨(f 38 q), (c 37 q), q, q, ww, q, q, ww, (f 38 q), q, nn q ?_⟩
        refine ⟨q, yy q ?_⟩
        refine .inr (yy q ?_)
        refine ⟨(f 39 q), (c 38 q), q, q, ww, q, q, ww, (f 39 q), q, yy q ?_⟩
        refine ⟨(f 40 q), (c 39 q), q, q, ww, q, q, ww, (f 40 q), q, yy q ?_⟩
        refine ⟨(f 41 q), (c 40 q), q, q, ww, q, q, ww, (f 41 q), q, yy q ?_⟩
        refine ⟨(f 42 q), (c 41 q), q, q, ww, q, q, ww, (f 42 q), q, yy q ?_⟩
        refine ⟨(f 43 q), (c 42 q), q, q, ww, q, q, ww, (f 43 q), q, yy q ?_⟩
        refine ⟨(f 44 q), (c 43 q), q, q, ww, q, q, ww, (f 44 q), q, yy q ?_⟩
        refine ⟨(f 45 q), (c 44 q), q, q, ww, q, q, ww, (f 45 q), q, nn q ?_⟩
        refine ⟨q, yy q ?_⟩
        refine .inr (yy q ?_)
        refine ⟨(f 46 q), (c 45 q), q, q, ww, q, q, ww, (f 46 q), q, yy q ?_⟩
        refine ⟨(f 47 q), (c 46 q), q, q, ww, q, q, ww, (f 47 q), q, yy q ?_⟩
        refine ⟨(f 48 q), (c 47 q), q, q, ww, q, q, ww, (f 48 q), q, yy q ?_⟩
        refine ⟨(f 49 q), (c 48 q), q, q, ww, q, q, ww, (f 49 q), q, yy q ?_⟩
        refine ⟨(f 50 q), (c 49 q), q, q, ww, q, q, ww, (f 50 q), q, yy q ?_⟩
        refine ⟨(f 51 q), (c 50 q), q, q, ww, q, q, ww, (f 51 q), q, nn q ?_⟩
        refine ⟨q, yy q ?_⟩
        refine .inr (yy q ?_)
        refine ⟨(f 52 q), (c 51 q), q, q, ww, q, q, ww, (f 52 q), q, yy q ?_⟩
        refine ⟨(f 53 q), (c 52 q), q, q, ww, q, q, ww, (f 53 q), q, yy q ?_⟩
        refine ⟨(f 54 q), (c 53 q), q, q, ww, q, q, ww, (f 54 q), q, yy q ?_⟩
        refine ⟨(f 55 q), (c 54 q), q, q, ww, q, q, ww, (f 55 q), q, yy q ?_⟩
        refine ⟨(f 56 q), (c 55 q), q, q, ww, q, q, ww, (f 56 q), q, nn q ?_⟩
        refine ⟨q, yy q ?_⟩
        refine .inr (yy q ?_)
        refine ⟨(f 57 q), (c 56 q), q, q, ww, q, q, ww, (f 57 q), q, yy q ?_⟩
        refine ⟨(f 58 q), (c 57 q), q, q, ww, q, q, ww, (f 58 q), q, yy q ?_⟩
        refine ⟨(f 59 q), (c 58 q), q, q, ww, q, q, ww, (f 59 q), q, yy q ?_⟩
        refine ⟨(f 60 q), (c 59 q), q, q, ww, q, q, ww, (f 60 q), q, nn q ?_⟩
        refine ⟨q, yy q ?_⟩
        refine .inr (yy q ?_)
        refine ⟨(f 61 q), (c 60 q), q, q, ww, q, q, ww, (f 61 q), q, yy q ?_⟩
        refine ⟨(f 62 q), (c 61 q), q, q, ww, q, q, ww, (f 62 q), q, yy q ?_⟩
        refine ⟨(f 63 q), (c 62 q), q, q, ww, q, q, ww, (f 63 q), q, nn q ?_⟩
        refine ⟨q, yy q ?_⟩
        refine .inr (yy q ?_)
        refine ⟨(f 64 q), (c 63 q), q, q, ww, q, q, ww, (f 64 q), q, yy q ?_⟩
        refine ⟨(f 65 q), (c 64 q), q, q, ww, q, q, ww, (f 65 q), q, nn q ?_⟩
        refine ⟨q, yy q ?_⟩
        refine .inr (yy q ?_)
        refine ⟨(f 66 q), (c 65 q), q, q, ww, q, q, ww, (f 66 q), q, nn q ?_⟩
        refine ⟨q, nn q ?_⟩
        refine ⟨⟨rfl, rfl, rfl, Nat.le_of_ble_eq_true rfl⟩, ?_⟩
        exact kr4 (v := .agg [.int .i64 12, .sl true (.sl .str) (mkR 11 sz nz), .int .i64 0]) (by kernel_rfl)
  · replace h2 : sz < 0 := h2
    omega
end Go.Proofs.YtcodgflbafanlaaDoor.S27

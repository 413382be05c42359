/- Texts of this claim: S27d.A45. -/
import Derived.Test.YtcodgflbafanlaaDoorS2
import Derived.Test.YtcodgflbafanlaaDoorS3
import Derived.Test.YtcodgflbafanlaaDoorS4
import Derived.Test.YtcodgflbafanlaaDoorS5
import Derived.Test.YtcodgflbafanlaaDoorS6
set_option linter.unusedVariables false
set_option linter.unusedSimpArgs false
namespace Go.Proofs.YtcodgflbafanlaaDoor.S27
open Go Go.Proofs.YtcodgflbafanlaaDoor.Vc Go.Proofs
set_option maxRecDepth 100000
set_option linter.unusedVariables false

set_option maxHeartbeats 1000000 in
theorem bRk (nd : Int) (sz : Int) (nz : List UInt8)  : bodyP (En CRfl tys G6 QPrs [1000000, 1000001]) Tryd.f7 [.k, .n .str, .k] [.int .i64 nd, .int .i64 sz, .str nz] (.agg [.int .i64 (mkN nd sz nz), .sl true (.sl .str) (mkC nd sz nz), .int .i64 (mkE nd sz nz)]) [] := by
  by_cases hn : nd < 2 ∨ 12 < nd ∨ sz < 0 ∨ 4096 < sz
  · obtain ⟨e1, e2, e3⟩ := mkE3 (s := nz) hn
    rw [e1, e2, e3]; exact bRk0 nd sz nz hn
  · by_cases hl : (nz.length : Int) = sz * (((nd - 1) * nd) / 2)
    · obtain ⟨e1, e2, e3⟩ := mkE0 hn hl
      rw [e1, e2, e3, ← mkR_eq (by omega)]
      obtain rfl | rfl | rfl | rfl | rfl | rfl | rfl | rfl | rfl | rfl | rfl : nd = 2 ∨ nd = 3 ∨ nd = 4 ∨ nd = 5 ∨ nd = 6 ∨ nd = 7 ∨ nd = 8 ∨ nd = 9 ∨ nd = 10 ∨ nd = 11 ∨ nd = 12 := by omega
      · exact bRk2 sz nz (by omega) (by omega) (by omega)
      · exact bRk3 sz nz (by omega) (by omega) (by omega)
      · exact bRk4 sz nz (by omega) (by omega) (by omega)
      · exact bRk5 sz nz (by omega) (by omega) (by omega)
      · exact bRk6 sz nz (by omega) (by omega) (by omega)
      · exact bRk7 sz nz (by omega) (by omega) (by omega)
      · exact bRk8 sz nz (by omega) (by omega) (by omega)
      · exact bRk9 sz nz (by omega) (by omega) (by omega)
      · exact bRk10 sz nz (by omega) (by omega) (by omega)
      · exact bRk11 sz nz (by omega) (by omega) (by omega)
      · exact bRk12 sz nz (by omega) (by omega) (by omega)
    · obtain ⟨e1, e2, e3⟩ := mkE1 hn hl
      rw [e1, e2, e3]
      obtain ⟨p1, p2, p3⟩ := prod_bd (nd := nd) (sz := sz) (by omega) (by omega) (by omega) (by omega)
      exact bRkN nd sz nz (by omega) (by omega) (by omega) (by omega) p1 p2 (by rw [p3]; exact hl)
theorem kRk : Known Tryd.prog (En CRk tys G6 QPrs) := Known.frz0 <| (kRfl.frz [1000000, 1000001]).add Tryd.func7 Tryd.call7 [.k, .n .str, .k] fun ds p v bs h hp => by
  unfold sRk at h
  split at h <;> simp only [Option.some.injEq, Prod.mk.injEq, reduceCtorEq] at h
  obtain ⟨rfl, rfl, rfl⟩ := h
  exact bRk _ _ _
end Go.Proofs.YtcodgflbafanlaaDoor.S27

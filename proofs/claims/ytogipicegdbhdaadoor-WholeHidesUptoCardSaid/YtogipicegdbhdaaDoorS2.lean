/- Texts of this claim: S40.M5, S40.A5, S40.Pj, S40.Pk, S40.P6z, S40.P6a, S40.B1, S40.B2, S40.B3, S40.B4, S40.B5. -/
import Derived.Test.YtogipicegdbhdaaDoorS1
import Derived.Test.YtogipicegdbhdaaDoorVc10
set_option linter.unusedVariables false
set_option linter.unusedSimpArgs false
namespace Go.Proofs.YtogipicegdbhdaaDoor.S40
open Go Go.Proofs.YtogipicegdbhdaaDoor.Vc Go.Proofs
set_option maxRecDepth 100000
set_option linter.unusedVariables false

set_option maxHeartbeats 2000000 in
theorem bMk6 (sz : Int) (nz : List UInt8) (hz : 0 ≤ sz) (h1 : sz ≤ 4096) (hl : (nz.length : Int) = sz * ((15 : Nat) : Int)) : bodyP (En CUpd tys G6 [] [1000000, 1000001]) Tryd.f30 [.m 1 .str, .k] [.int .i64 6, .int .i64 sz, .str nz] (.tup [.agg [.int .i64 6, .sl true (.sl .str) (mkD 5 sz.toNat nz)], .int .i64 0]) [] := by
  have c := @cutOk sz nz 15 hz hl
  refine ⟨fun h0 => ?_, fun h0 => absurd h0 (show ¬ ((6 : Int) < 2) by decide)⟩
  refine ⟨fun h1 => ?_, fun h1 => absurd h1 (show ¬ ((12 : Int) < 6) by decide)⟩
  refine ⟨fun h2 => ?_, fun h2 => ?_⟩
  · replace h2 : ¬ (sz < 0) := h2
    refine ⟨fun h3 => ?_, fun h3 => ?_⟩
    · replace h3 : 4096 < sz := h3
      omega
    · replace h3 : ¬ (4096 < sz) := h3
      refine ⟨q, ⟨by show (-9223372036854775808 : Int) ≤ (sz * 5); omega, by show (sz * 5) ≤ (9223372036854775807 : Int); omega⟩, q, ⟨by show (-9223372036854775808 : Int) ≤ ((sz * 5) * 6); omega, by show ((sz * 5) * 6) ≤ (9223372036854775807 : Int); omega⟩, .inl ⟨⟨by show (0 : Int) ≤ ((sz * 5) * 6); omega, by show (0 : Int) < 2; omega⟩, ?_⟩⟩
      refine ⟨fun h4 => ?_, fun h4 => ?_⟩
      · replace h4 : (nz.length : Int) ≠ (((sz * 5) * 6) / 2) := h4
        omega
      · replace h4 : ¬ ((nz.length : Int) ≠ (((sz * 5) * 6) / 2)) := h4
        refine ⟨⟨rfl, by decide, by decide⟩, ⟨rfl, rfl, rfl, Nat.le_of_ble_eq_true rfl⟩, .inr ?_⟩
        refine yy q ?_
        refine ⟨by kernel_rfl, ⟨rfl, by show (0 : Int) ≤ 5; omega, by show 5 ≤ (1000000000 : Int); omega⟩, q, ww3, q, yy q ?_⟩
        refine ⟨by kernel_rfl, ⟨rfl, by show (0 : Int) ≤ 5; omega, by show 5 ≤ (1000000000 : Int); omega⟩, q, ww3, q, yy q ?_⟩
        refine ⟨by kernel_rfl, ⟨rfl, by show (0 : Int) ≤ 5; omega, by show 5 ≤ (1000000000 : Int); omega⟩, q, ww3, q, yy q ?_⟩
        refine ⟨by kernel_rfl, ⟨rfl, by show (0 : Int) ≤ 5; omega, by show 5 ≤ (1000000000 : Int); omega⟩, q, ww3, q, yy q ?_⟩
        refine ⟨by kernel_rfl, ⟨rfl, by show (0 : Int) ≤ 5; omega, by show 5 ≤ (1000000000 : Int); omega⟩, q, ww3, q, nn q ?_⟩
        refine .inr (yy q ?_)
        refine .inr (yy q ?_)
        refine ⟨by kernel_rfl, q, q, (c 0 q), (c 0 q), q, ww, q, ww, (c 0 q), q, yy q ?_⟩
        refine ⟨by kernel_rfl, q, q, (c 1 q), (c 1 q), q, ww, q, ww, (c 1 q), q, yy q ?_⟩
        refine ⟨by kernel_rfl, q, q, (c 2 q), (c 2 q), q, ww, q, ww, (c 2 q), q, yy q ?_⟩
        refine ⟨by kernel_rfl, q, q, (c 3 q), (c 3 q), q, ww, q, ww, (c 3 q), q, yy q ?_⟩
        refine ⟨by kernel_rfl, q, q, (c 4 q), (c 4 q), q, ww, q, ww, (c 4 q), q, nn q ?_⟩
        refine ⟨q, yy q ?_⟩
        refine .inr (yy q ?_)
        refine ⟨by kernel_rfl, q, q, (c 5 q), (c 5 q), q, ww, q, ww, (c 5 q), q, yy q ?_⟩
        refine ⟨by kernel_rfl, q, q, (c 6 q), (c 6 q), q, ww, q, ww, (c 6 q), q, yy q ?_⟩
        refine ⟨by kernel_rfl, q, q, (c 7 q), (c 7 q), q, ww, q, ww, (c 7 q), q, yy q ?_⟩
        refine ⟨by kernel_rfl, q, q, (c 8 q), (c 8 q), q, ww, q, ww, (c 8 q), q, nn q ?_⟩
        refine ⟨q, yy q ?_⟩
        refine .inr (yy q ?_)
        refine ⟨by kernel_rfl, q, q, (c 9 q), (c 9 q), q, ww, q, ww, (c 9 q), q, yy q ?_⟩
        refine ⟨by kernel_rfl, q, q, (c 10 q), (c 10 q), q, ww, q, ww, (c 10 q), q, yy q ?_⟩
        refine ⟨by kernel_rfl, q, q, (c 11 q), (c 11 q), q, ww, q, ww, (c 11 q), q, nn q ?_⟩
        refine ⟨q, yy q ?_⟩
        refine .inr (yy q ?_)
        refine ⟨by kernel_rfl, q, q, (c 12 q), (c 12 q), q, ww, q, ww, (c 12 q), q, yy q ?_⟩
        refine ⟨by kernel_rfl, q, q, (c 13 q), (c 13 q), q, ww, q, ww, (c 13 q), q, nn q ?_⟩
        refine ⟨q, yy q ?_⟩
        refine .inr (yy q ?_)
        refine ⟨by kernel_rfl, q, q, (c 14 q), (c 14 q), q, ww, q, ww, (c 14 q), q, nn q ?_⟩
        refine ⟨q, nn q ?_⟩
        refine ⟨⟨rfl, rfl, rfl, Nat.le_of_ble_eq_true rfl⟩, ?_⟩
        exact kr4 (v := .tup [.agg [.int .i64 6, .sl true (.sl .str) (mkD 5 sz.toNat nz)], .int .i64 0]) (by kernel_rfl)
  · replace h2 : sz < 0 := h2
    omega
end Go.Proofs.YtogipicegdbhdaaDoor.S40

namespace Go.Proofs.YtogipicegdbhdaaDoor.S40
open Go Go.Proofs.YtogipicegdbhdaaDoor.Vc Go.Proofs
set_option maxRecDepth 100000
set_option linter.unusedVariables false

def sMk : List V → Option (Prop × V × List Blk)
  | [.int .i64 nd, .int .i64 sz, .str nz] => some (nd ≤ 6, .tup [.agg [.int .i64 (mkN nd sz nz), .sl true (.sl .str) (mkC nd sz nz)], .int .i64 (mkE nd sz nz)], [])
  | _ => none
set_option maxHeartbeats 1000000 in
theorem bMk (nd : Int) (sz : Int) (nz : List UInt8) (hp0 : nd ≤ 6) : bodyP (En CUpd tys G6 [] [1000000, 1000001]) Tryd.f30 [.m 1 .str, .k] [.int .i64 nd, .int .i64 sz, .str nz] (.tup [.agg [.int .i64 (mkN nd sz nz), .sl true (.sl .str) (mkC nd sz nz)], .int .i64 (mkE nd sz nz)]) [] := by
  by_cases hn : nd < 2 ∨ 12 < nd ∨ sz < 0 ∨ 4096 < sz
  · obtain ⟨e1, e2, e3⟩ := mkE3 (s := nz) hn
    rw [e1, e2, e3]; exact bMk0 nd sz nz hn
  · by_cases hl : (nz.length : Int) = sz * (((nd - 1) * nd) / 2)
    · obtain ⟨e1, e2, e3⟩ := mkE0 hn hl
      rw [e1, e2, e3]
      obtain rfl | rfl | rfl | rfl | rfl : nd = 2 ∨ nd = 3 ∨ nd = 4 ∨ nd = 5 ∨ nd = 6 := by omega
      · exact bMk2 sz nz (by omega) (by omega) (by omega)
      · exact bMk3 sz nz (by omega) (by omega) (by omega)
      · exact bMk4 sz nz (by omega) (by omega) (by omega)
      · exact bMk5 sz nz (by omega) (by omega) (by omega)
      · exact bMk6 sz nz (by omega) (by omega) (by omega)
    · obtain ⟨e1, e2, e3⟩ := mkE1 hn hl
      rw [e1, e2, e3]
      obtain ⟨p1, p2, p3⟩ := prod_bd (nd := nd) (sz := sz) (by omega) (by omega) (by omega) (by omega)
      exact bMkN nd sz nz (by omega) (by omega) (by omega) (by omega) p1 p2 (by rw [p3]; exact hl)
def CMk : List (Nat × Con) := (30, pureC [.v (.int .i64), .v (.int .i64), .v .str] sMk) :: CUpd
theorem kMk : Known Tryd.prog (En CMk tys G6 []) := Known.frz0 <| (kUpd.frz [1000000, 1000001]).add Tryd.func30 Tryd.call30 [.m 1 .str, .k] fun ds p v bs h hp => by
  unfold sMk at h
  split at h <;> simp only [Option.some.injEq, Prod.mk.injEq, reduceCtorEq] at h
  obtain ⟨rfl, rfl, rfl⟩ := h
  exact bMk _ _ _ hp
end Go.Proofs.YtogipicegdbhdaaDoor.S40

namespace Go.Proofs.YtogipicegdbhdaaDoor.S40
open Go Go.Proofs.YtogipicegdbhdaaDoor.Vc Go.Proofs
set_option maxRecDepth 100000
def lnA (xk : UInt8) (k : Nat) : List UInt8 → Nat → List UInt8 → List UInt8
  | [], _, p => p
  | x :: rest, i, p => lnA xk k rest (i + 1) (if i ≠ k then prodL p [mulL x (invL (xk ^^^ x)), invL (xk ^^^ x)] else p)
def lnO (xs ys : List UInt8) : Nat → Nat → List UInt8 → List UInt8
  | 0, _, out => out
  | f + 1, k, out => lnO xs ys f (k + 1) (sumL [out, lnA (xs.getD k 0) k xs 0 [ys.getD k 0]])
def lineL (xs ys : List UInt8) : List UInt8 := lnO xs ys xs.length 0 []
theorem lin2_val (z x c : UInt8) : horner z [mulL x c, c] = mulL (z ^^^ x) c := by
  show mulL (mulL 0 z ^^^ c) z ^^^ mulL x c = _
  rw [zero_mul', UInt8.zero_xor, mul_comm' c z, mulL_add]
theorem lnA_keep (z xk : UInt8) (k : Nat) (hz : z = xk) : ∀ (xs : List UInt8) (i : Nat) (p : List UInt8), (∀ m, m < xs.length → i + m ≠ k → xs.getD m 0 ≠ xk) → horner z (lnA xk k xs i p) = horner z p
  | [], i, p, _ => rfl
  | x :: xs, i, p, h => by
    rw [lnA, lnA_keep z xk k hz xs (i + 1) _ fun m hm hne => h (m + 1) (by simpa using hm) (by omega)]
    by_cases hi : i ≠ k
    · rw [if_pos hi, horner_prod, lin2_val, hz]
      have hx : x ≠ xk := h 0 (by simp) (by omega)
      rw [mul_inv' _ (fun e => hx (xor_zero_iff.1 e).symm), mul_one']
    · rw [if_neg hi]
theorem lnA_dies (z xk : UInt8) (k : Nat) : ∀ (xs : List UInt8) (i : Nat) (p : List UInt8), (horner z p = 0 → horner z (lnA xk k xs i p) = 0) ∧ ∀ m, m < xs.length → i + m ≠ k → xs.getD m 0 = z → horner z (lnA xk k xs i p) = 0
  | [], i, p => ⟨fun h => h, fun m hm => by simp at hm⟩
  | x :: xs, i, p => by
    rw [lnA]
    obtain ⟨h1, h2⟩ := lnA_dies z xk k xs (i + 1) (if i ≠ k then prodL p [mulL x (invL (xk ^^^ x)), invL (xk ^^^ x)] else p)
    refine ⟨fun h => h1 ?_, fun m hm hne he => ?_⟩
    · split
      · rw [horner_prod, h, zero_mul']
      · exact h
    · cases m with
      | zero =>
        have he : x = z := he
        refine h1 ?_
        rw [if_pos (by omega), horner_prod, lin2_val, he, UInt8.xor_self, zero_mul', mul_zero']
      | succ m => exact h2 m (by simpa using hm) (by omega) he
theorem lnA_sz (xk : UInt8) (k : Nat) : ∀ (xs : List UInt8) (i : Nat) (p : List UInt8), sz (lnA xk k xs i p) ≤ sz p + xs.length ∧ (i ≤ k → k < i + xs.length → sz (lnA xk k xs i p) + 1 ≤ sz p + xs.length)
  | [], i, p => ⟨Nat.le_refl _, fun h1 h2 => by simp at h2; omega⟩
  | x :: xs, i, p => by
    rw [lnA]
    obtain ⟨h1, h2⟩ := lnA_sz xk k xs (i + 1) (if i ≠ k then prodL p [mulL x (invL (xk ^^^ x)), invL (xk ^^^ x)] else p)
    have h3 := sz_prod_le p [mulL x (invL (xk ^^^ x)), invL (xk ^^^ x)]
    have h4 := sz_len [mulL x (invL (xk ^^^ x)), invL (xk ^^^ x)]
    simp only [List.length_cons, List.length_nil] at h4 ⊢
    by_cases hi : i = k
    · rw [if_neg (by omega)] at h1 h2 ⊢
      exact ⟨by omega, fun _ _ => by omega⟩
    · rw [if_pos hi] at h1 h2 ⊢
      exact ⟨by omega, fun h5 h6 => by have := h2 (by omega) (by omega); omega⟩
theorem nodup_inj (xs : List UInt8) (hn : xs.Nodup) (i j : Nat) (hi : i < xs.length) (hj : j < xs.length) (h : xs.getD i 0 = xs.getD j 0) : i = j := by
  simp only [List.getD_eq_getElem?_getD, List.getElem?_eq_getElem hi, List.getElem?_eq_getElem hj, Option.getD_some] at h
  have hp := List.pairwise_iff_getElem.1 hn
  rcases Nat.lt_trichotomy i j with g | g | g
  · exact absurd h (hp i j hi hj g)
  · exact g
  · exact absurd h.symm (hp j i hj hi g)
theorem lnO_val (xs ys : List UInt8) (hn : xs.Nodup) (j : Nat) (hj : j < xs.length) : ∀ (f k : Nat) (out : List UInt8), k + f = xs.length → horner (xs.getD j 0) (lnO xs ys f k out) = horner (xs.getD j 0) out ^^^ (if k ≤ j then ys.getD j 0 else 0)
  | 0, k, out, h => by rw [lnO, if_neg (by omega)]; simp
  | f + 1, k, out, h => by
    rw [lnO, lnO_val xs ys hn j hj f (k + 1) _ (by omega), horner_sum]
    have hne : ∀ m, m < xs.length → m ≠ k → xs.getD m 0 ≠ xs.getD k 0 := fun m hm hmk e => by
      have hk : k < xs.length := by omega
      exact hmk (nodup_inj xs hn m k hm hk e)
    by_cases hjk : j = k
    · have h1 := lnA_keep (xs.getD j 0) (xs.getD k 0) k (by rw [hjk]) xs 0 [ys.getD k 0] fun m hm hmk => hne m hm (by omega)
      rw [h1, horner_const, if_neg (by omega), if_pos (by omega), hjk]
      simp
    · have h1 := (lnA_dies (xs.getD j 0) (xs.getD k 0) k xs 0 [ys.getD k 0]).2 j hj (by omega) rfl
      rw [h1]
      by_cases hlt : k ≤ j
      · rw [if_pos (by omega), if_pos hlt]; simp
      · rw [if_neg (by omega), if_neg hlt]; simp
theorem lnO_sz (xs ys : List UInt8) : ∀ (f k : Nat) (out : List UInt8), k + f = xs.length → sz out ≤ xs.length → sz (lnO xs ys f k out) ≤ xs.length
  | 0, k, out, _, h => h
  | f + 1, k, out, hk, h => by
    rw [lnO]
    refine lnO_sz xs ys f (k + 1) _ (by omega) (sz_sum_le _ _ _ h ?_)
    have h1 := (lnA_sz (xs.getD k 0) k xs 0 [ys.getD k 0]).2 (Nat.zero_le _) (by omega)
    have h2 := sz_len [ys.getD k 0]
    simp only [List.length_cons, List.length_nil] at h2
    omega
theorem lnO_trim (xs ys : List UInt8) : ∀ (f k : Nat) (out : List UInt8), trimL out = out → trimL (lnO xs ys f k out) = lnO xs ys f k out
  | 0, k, out, h => h
  | f + 1, k, out, _ => lnO_trim xs ys f (k + 1) _ (sum_trim _ _)
theorem lineL_val (xs ys : List UInt8) (hn : xs.Nodup) (j : Nat) (hj : j < xs.length) : horner (xs.getD j 0) (lineL xs ys) = ys.getD j 0 := by
  unfold lineL
  rw [lnO_val xs ys hn j hj _ _ _ (by omega), if_pos (by omega)]
  show 0 ^^^ _ = _
  simp
theorem lineL_sz (xs ys : List UInt8) : sz (lineL xs ys) ≤ xs.length := lnO_sz xs ys _ _ _ (by omega) (Nat.zero_le _)
theorem lineL_trim (xs ys : List UInt8) : trimL (lineL xs ys) = lineL xs ys := lnO_trim xs ys _ _ _ rfl
theorem thr_line (xs ys : List UInt8) (h : rightP xs ys) : thrL xs ys = lineL xs ys := by
  rw [← lineL_trim]
  exact thrL_unique xs ys _ h (lineL_sz xs ys) fun k hk => lineL_val xs ys h.1 k hk
theorem missA_nil (p xs ys : List UInt8) : ∀ n, (missA p xs ys n).length = 0 ↔ ∀ k, k < n → horner (xs.getD k 0) p = ys.getD k 0
  | 0 => ⟨fun _ k h => by omega, fun _ => rfl⟩
  | n + 1 => by
    have ih := missA_nil p xs ys n
    unfold missA
    by_cases h : horner (xs.getD n 0) p ≠ ys.getD n 0
    · rw [if_pos h]
      refine ⟨fun h1 => ?_, fun h1 => absurd (h1 n (by omega)) h⟩
      rw [List.length_append] at h1
      simp at h1
    · rw [if_neg h]
      rw [ih]
      have h := Classical.not_not.1 h
      refine ⟨fun h1 k hk => ?_, fun h1 k hk => h1 k (by omega)⟩
      by_cases e : k = n
      · rw [e]; exact h
      · exact h1 k (by omega)
theorem getD_take (l : List UInt8) (n k : Nat) (h : k < n) : (l.take n).getD k 0 = l.getD k 0 := by
  simp [List.getD_eq_getElem?_getD, List.getElem?_take, h]
theorem right_take (a b : List UInt8) (n : Nat) (h : rightP a b) : rightP (a.take n) (b.take n) :=
  ⟨h.1.sublist (List.take_sublist _ _), by rw [List.length_take, List.length_take, h.2]⟩
end Go.Proofs.YtogipicegdbhdaaDoor.S40

namespace Go.Proofs.YtogipicegdbhdaaDoor.S40
open Go Go.Proofs.YtogipicegdbhdaaDoor.Vc Go.Proofs
set_option maxRecDepth 100000
end Go.Proofs.YtogipicegdbhdaaDoor.S40

namespace Go.Proofs.YtogipicegdbhdaaDoor.S40
open Go Go.Proofs.YtogipicegdbhdaaDoor.Vc Go.Proofs
set_option maxRecDepth 100000
theorem mapT_len {α β : Type} (f : α → β) (l : List α) (k : Nat) (h : k ≤ l.length) : ((l.take k).map f).length = k := by rw [List.length_map, List.length_take]; omega
theorem tp_len (a b : List UInt8) (d : Int) : (tpL a b d).1.length ≤ 2 * a.length + 3 := by
  unfold tpL
  split
  · split
    · simp
    · split
      · exact Nat.zero_le _
      · have := thrL_len a b
        split <;> simp <;> omega
  · simp
def xs' (f : Nat → UInt8) : Nat → UInt8
  | 0 => 0
  | n + 1 => xs' f n ^^^ f n
theorem xs_congr {f g : Nat → UInt8} : ∀ {n : Nat}, (∀ i, i < n → f i = g i) → xs' f n = xs' g n
  | 0, _ => rfl
  | n + 1, h => by
    show xs' f n ^^^ f n = xs' g n ^^^ g n
    rw [xs_congr fun i hi => h i (by omega), h n (by omega)]
theorem xs_zero : ∀ (n : Nat), xs' (fun _ => 0) n = 0
  | 0 => rfl
  | n + 1 => by
    show xs' _ n ^^^ 0 = 0
    rw [xs_zero n]; rfl
theorem xs_add (f g : Nat → UInt8) : ∀ n, xs' (fun i => f i ^^^ g i) n = xs' f n ^^^ xs' g n
  | 0 => by simp [xs']
  | n + 1 => by
    show xs' _ n ^^^ (f n ^^^ g n) = (xs' f n ^^^ f n) ^^^ (xs' g n ^^^ g n)
    rw [xs_add f g n]; ac_rfl
theorem xs_mul (c : UInt8) (f : Nat → UInt8) : ∀ n, xs' (fun i => mulL c (f i)) n = mulL c (xs' f n)
  | 0 => (mul_zero' c).symm
  | n + 1 => by
    show xs' _ n ^^^ mulL c (f n) = mulL c (xs' f n ^^^ f n)
    rw [xs_mul c f n, mulL_addr]
def pw (x : UInt8) : Nat → UInt8
  | 0 => 1
  | n + 1 => mulL x (pw x n)
theorem xs_shift (f : Nat → UInt8) : ∀ n, xs' f (n + 1) = f 0 ^^^ xs' (fun i => f (i + 1)) n
  | 0 => by show (0 : UInt8) ^^^ f 0 = f 0 ^^^ 0; simp
  | n + 1 => by
    show xs' f (n + 1) ^^^ f (n + 1) = f 0 ^^^ (xs' (fun i => f (i + 1)) n ^^^ f (n + 1))
    rw [xs_shift f n]; ac_rfl
theorem horner_xs (x : UInt8) : ∀ (p : List UInt8) (n : Nat), p.length ≤ n → horner x p = xs' (fun i => mulL (co p i) (pw x i)) n
  | [], n, _ => by
    rw [show (fun i => mulL (co [] i) (pw x i)) = fun _ => 0 from funext fun i => by rw [co_nil, zero_mul'], xs_zero]; rfl
  | c :: p, 0, h => by simp at h
  | c :: p, n + 1, h => by
    rw [xs_shift]
    show mulL (horner x p) x ^^^ c = mulL c (pw x 0) ^^^ _
    rw [show pw x 0 = 1 from rfl, mul_one', horner_xs x p n (by simpa using h), mul_comm' _ x, ← xs_mul, UInt8.xor_comm]
    congr 1
    exact xs_congr fun i _ => by
      show mulL x (mulL (co p i) (pw x i)) = mulL (co p i) (mulL x (pw x i))
      ac_rfl
def colL (l : Rw) (k : Nat) : List UInt8 := l.map fun s => s.getD k 0
theorem colL_len (l : Rw) (k : Nat) : (colL l k).length = l.length := List.length_map ..
theorem scale_get {c : UInt8} {s : List UInt8} {k : Nat} (h : k < s.length) : (scaleB c s).getD k 0 = mulL c (s.getD k 0) := by
  simp [scaleB, scaleF, List.getD_eq_getElem?_getD, h]
theorem sum_get {a b : List UInt8} {k : Nat} (hl : a.length = b.length) (h : k < a.length) : (sumB a b).getD k 0 = a.getD k 0 ^^^ b.getD k 0 := by
  unfold sumB
  rw [if_neg (by omega)]
  simp [sumF, sumG, List.getD_eq_getElem?_getD, h, hl ▸ h]
theorem ext_get {a b : List UInt8} {N : Nat} (ha : a.length = N) (hb : b.length = N) (h : ∀ k, k < N → a.getD k 0 = b.getD k 0) : a = b := by
  apply List.ext_getElem (by omega)
  intro i h1 h2
  have := h i (by omega)
  simpa [List.getD_eq_getElem?_getD, h1, h2] using this
theorem at_len {x : UInt8} {N : Nat} : ∀ (l : Rw), 1 ≤ l.length → (∀ s ∈ l, s.length = N) → (atL l x).length = N
  | [], h, _ => by simp at h
  | [s], _, h => h s (by simp)
  | s :: t :: r, _, h => by
    rw [atL, sum_len, scale_len, at_len (t :: r) (by simp) fun y hy => h y (by simp [hy]), h s (by simp)]
    omega
theorem at_get {x : UInt8} {N k : Nat} (hk : k < N) : ∀ (l : Rw), 1 ≤ l.length → (∀ s ∈ l, s.length = N) → (atL l x).getD k 0 = horner x (colL l k)
  | [], h, _ => by simp at h
  | [s], _, h => by
    show s.getD k 0 = mulL 0 x ^^^ s.getD k 0
    rw [zero_mul']; simp
  | s :: t :: r, _, h => by
    have hl := at_len (x := x) (t :: r) (by simp) fun y hy => h y (by simp [hy])
    have hs := h s (by simp)
    rw [atL, sum_get (by rw [scale_len]; omega) (by rw [scale_len]; omega), scale_get (by omega), at_get hk (t :: r) (by simp) fun y hy => h y (by simp [hy]), mul_comm']
    rfl
theorem row_len {nd : Int} {cf : List Rw} (h : Deal nd cf) (x : Int) : ∀ s ∈ rowD cf x, s.length = n00 cf := fun s hs => by
  obtain ⟨l, hl, rfl⟩ := List.mem_map.1 hs
  have := h.rows l hl
  have h2 := h.n2
  have h3 := h.len
  exact at_len l (by omega) (h.strs l hl)
theorem row_get {nd : Int} {cf : List Rw} (h : Deal nd cf) (x : Int) (i : Nat) (hi : i < cf.length) : (rowD cf x).getD i [] = atL (cf.getD i []) (pt x) := by
  simp [rowD, List.getD_eq_getElem?_getD, hi]
theorem pt_nat {h : Nat} (hh : h < 12) : (pt (h : Int)).toNat = h + 1 := by
  unfold pt
  rw [show (((h : Int) + 1) % 256).toNat = h + 1 by omega]
  simp; omega
theorem pt_inj {a b : Nat} (ha : a < 12) (hb : b < 12) (h : pt (a : Int) = pt (b : Int)) : a = b := by
  have := congrArg UInt8.toNat h
  rw [pt_nat ha, pt_nat hb] at this; omega
theorem pt_ne {a : Nat} (ha : a < 12) : pt (a : Int) ≠ 0 := fun h => by
  have := congrArg UInt8.toNat h
  rw [pt_nat ha] at this; simp at this
theorem nodup_pts : ∀ (l : List Nat), l.Nodup → (∀ i ∈ l, i < 12) → (l.map fun i : Nat => pt (i : Int)).Nodup
  | [], _, _ => List.nodup_nil
  | a :: l, hn, hl => by
    rw [List.map_cons, List.nodup_cons]
    rw [List.nodup_cons] at hn
    refine ⟨fun hm => ?_, nodup_pts l hn.2 fun i hi => hl i (by simp [hi])⟩
    obtain ⟨b, hb, e⟩ := List.mem_map.1 hm
    have := pt_inj (hl b (by simp [hb])) (hl a (by simp)) e
    subst this
    exact hn.1 hb
end Go.Proofs.YtogipicegdbhdaaDoor.S40

namespace Go.Proofs.YtogipicegdbhdaaDoor.S40
open Go Go.Proofs.YtogipicegdbhdaaDoor.Vc Go.Proofs
set_option maxRecDepth 100000

/-! ### lists of shares -/
def smB (s : (Int × List UInt8 × Unit)) : Bool := decide (s.2.1.length ≤ 4096)
def lnS (l : List (Int × List UInt8 × Unit)) : Nat := (l.getD 0 (0, [], ())).2.1.length
def okP (l : List (Int × List UInt8 × Unit)) (k : Nat) : Prop := knw (l.getD k (0, [], ())).1 ∧ (k = 0 ∨ (l.getD (k - 1) (0, [], ())).1 < (l.getD k (0, [], ())).1) ∧ (l.getD k (0, [], ())).2.1.length = lnS l
instance (l : List (Int × List UInt8 × Unit)) (k : Nat) : Decidable (okP l k) := by unfold okP; infer_instance
def okS (l : List (Int × List UInt8 × Unit)) (k : Nat) : Bool := decide (okP l k)
def chkE (l : List (Int × List UInt8 × Unit)) : Int := if 12 < l.length ∨ l.all smB = false then 2 else if (List.range l.length).all (okS l) = true then 0 else 1
structure ShOk (l : List (Int × List UInt8 × Unit)) : Prop where
  len : l.length ≤ 12
  max : lnS l ≤ 4096
  bytes : ∀ s ∈ l, s.2.1.length = lnS l
  house : ∀ s ∈ l, knw s.1
  up : ∀ k, k + 1 < l.length → (l.getD k (0, [], ())).1 < (l.getD (k + 1) (0, [], ())).1
theorem chk2 {l : List (Int × List UInt8 × Unit)} (h : 12 < l.length ∨ l.all smB = false) : chkE l = 2 := if_pos h
theorem chk1 {l : List (Int × List UInt8 × Unit)} (h1 : ¬ 12 < l.length) (h2 : ¬ l.all smB = false) {k : Nat} (hk : k < l.length) (h : ¬ okP l k) : chkE l = 1 := by
  unfold chkE
  rw [if_neg (fun e => e.elim h1 h2), if_neg]
  rw [rangeBad hk (show okS l k = false from decide_eq_false h)]; decide
theorem chk0' {l : List (Int × List UInt8 × Unit)} (h1 : ¬ 12 < l.length) (h2 : ¬ l.all smB = false) (h : (List.range l.length).all (okS l) = true) : chkE l = 0 := by
  unfold chkE
  rw [if_neg (fun e => e.elim h1 h2), if_pos h]
theorem chk0 {l : List (Int × List UInt8 × Unit)} (h : chkE l = 0) : ShOk l := by
  unfold chkE at h
  split at h
  · cases h
  · rename_i h1
    split at h
    · rename_i h2
      have h3 : ∀ k, k < l.length → okP l k := fun k hk => of_decide_eq_true (List.all_eq_true.1 h2 k (List.mem_range.2 hk))
      have h4 : ∀ s ∈ l, s.2.1.length ≤ 4096 := fun s hs => of_decide_eq_true (all_false (fun e => h1 (.inr e)) s hs)
      refine ⟨Nat.le_of_not_lt fun e => h1 (.inl e), ?_, fun s hs => ?_, fun s hs => ?_, fun k hk => ?_⟩
      · rcases Nat.eq_zero_or_pos l.length with g | g
        · have := List.eq_nil_of_length_eq_zero g; subst this; simp [lnS]
        · exact h4 _ (getD_mem (0, [], ()) l 0 g)
      · obtain ⟨k, hk, rfl⟩ := getD_mem' (d := (0, [], ())) hs
        exact (h3 k hk).2.2
      · obtain ⟨k, hk, rfl⟩ := getD_mem' (d := (0, [], ())) hs
        exact (h3 k hk).1
      · have := (h3 (k + 1) hk).2.1
        rcases this with g | g
        · omega
        · simpa using g
    · cases h
theorem ok_next {l : List (Int × List UInt8 × Unit)} {k : Nat} (h : ∀ j, j < k → okS l j = true) (hk : okS l k = true) : ∀ j, j < k + 1 → okS l j = true := fun j hj => by
  rcases Nat.lt_or_eq_of_le (Nat.le_of_lt_succ hj) with g | g
  · exact h j g
  · rw [g]; exact hk
theorem chk0'' {l : List (Int × List UInt8 × Unit)} {k : Nat} (h1 : ¬ 12 < l.length) (h2 : ¬ l.all smB = false) (h : ∀ j, j < k → okS l j = true) (hk : l.length ≤ k) : chkE l = 0 :=
  chk0' h1 h2 (List.all_eq_true.2 fun j hj => h j (by have := List.mem_range.1 hj; omega))
theorem okS_yes {l : List (Int × List UInt8 × Unit)} {k : Nat} (h1 : knw (l.getD k (0, [], ())).1) (h2 : k = 0 ∨ ¬ (l.getD k (0, [], ())).1 ≤ (l.getD ((k : Int) - 1).toNat (0, [], ())).1) (h3 : ¬ (((l.getD k (0, [], ())).2.1.length : Nat) : Int) ≠ (((l.getD 0 (0, [], ())).2.1.length : Nat) : Int)) : okS l k = true := by
  refine decide_eq_true ⟨h1, ?_, by unfold lnS; omega⟩
  rcases h2 with h | h
  · exact .inl h
  · rw [show ((k : Int) - 1).toNat = k - 1 by omega] at h; exact .inr (by omega)
theorem chk_cases (l : List (Int × List UInt8 × Unit)) : chkE l = 0 ∨ chkE l = 1 ∨ chkE l = 2 := by
  unfold chkE
  split
  · exact .inr (.inr rfl)
  · split
    · exact .inl rfl
    · exact .inr (.inl rfl)
/-- Where the first one stands that is too large. -/
def ixF (l : List (Int × List UInt8 × Unit)) : Int := if l.all smB = true then -1 else ((l.takeWhile smB).length : Int)
theorem ixF_no {l : List (Int × List UInt8 × Unit)} {k : Nat} (hk : l.length ≤ k) (hc : (l.drop k).all smB = l.all smB) : ixF l = -1 := if_pos (all_stop hk hc)
theorem takeWhile_at {α : Type} {p : α → Bool} {d : α} : ∀ {l : List α} {k : Nat}, k < l.length → (l.take k).all p = true → p (l.getD k d) = false → (l.takeWhile p).length = k
  | [], k, h, _, _ => by simp at h
  | x :: l, 0, _, _, h => by
    have h : p x = false := h
    simp [List.takeWhile, h]
  | x :: l, k + 1, hk, ha, h => by
    simp only [List.take_succ_cons, List.all_cons, Bool.and_eq_true] at ha
    rw [List.takeWhile_cons, if_pos ha.1, List.length_cons, takeWhile_at (by simpa using hk) ha.2 (by simpa using h)]
theorem take_all {α : Type} {p : α → Bool} {d : α} {l : List α} {k : Nat} (hk : k < l.length) (h : (l.take k).all p = true) (hp : p (l.getD k d) = true) : (l.take (k + 1)).all p = true := by
  rw [takeD d l k hk, List.all_append, h]; show (true && (p (l.getD k d) && true)) = true; rw [hp]; rfl
theorem take_bad {α : Type} {p : α → Bool} {d : α} {l : List α} {k : Nat} (hk : k < l.length) (hp : p (l.getD k d) = false) : l.all p = false := by
  rw [List.all_eq_false]
  exact ⟨_, getD_mem d l k hk, by rw [hp]; decide⟩
theorem ixF_at {l : List (Int × List UInt8 × Unit)} {k : Nat} (hk : k < l.length) (hc : (l.take k).all smB = true) (h : smB (l.getD k (0, [], ())) = false) : ixF l = (k : Int) := by
  unfold ixF
  rw [if_neg (by rw [take_bad hk h]; decide), takeWhile_at hk hc h]
theorem ixF_all {l : List (Int × List UInt8 × Unit)} {k : Nat} (hk : l.length ≤ k) (hc : (l.take k).all smB = true) : ixF l = -1 := by
  rw [List.take_of_length_le hk] at hc
  exact if_pos hc
theorem ixF_ge (l : List (Int × List UInt8 × Unit)) : 0 ≤ ixF l ↔ l.all smB = false := by
  unfold ixF
  split
  · rename_i h; rw [h]; constructor <;> intro g
    · omega
    · cases g
  · rename_i h; exact ⟨fun _ => by simpa using h, fun _ => by omega⟩

/-! ### columns -/
def xsL (l : List (Int × List UInt8 × Unit)) : List UInt8 := l.map fun s => pt s.1
def ysL (l : List (Int × List UInt8 × Unit)) (k : Nat) : List UInt8 := l.map fun s => s.2.1.getD k 0
theorem xsL_len (l : List (Int × List UInt8 × Unit)) : (xsL l).length = l.length := List.length_map ..
theorem ysL_len (l : List (Int × List UInt8 × Unit)) (k : Nat) : (ysL l k).length = l.length := List.length_map ..
def xF (l : List (Int × List UInt8 × Unit)) (i : Nat) : UInt8 := pt (l.getD i (0, [], ())).1
def yF (l : List (Int × List UInt8 × Unit)) (k : Nat) (i : Nat) : UInt8 := (l.getD i (0, [], ())).2.1.getD k 0
theorem range_get {α β : Type} (d : α) (f : α → β) (l : List α) : (List.range l.length).map (fun i => f (l.getD i d)) = l.map f := by
  apply List.ext_getElem
  · simp
  · intro i h1 h2
    simp at h2
    simp [List.getElem?_eq_getElem h2]
theorem xs_fill (l : List (Int × List UInt8 × Unit)) : fillF (xF l) l.length l.length = xsL l := by rw [fill_all]; exact range_get (0, [], ()) (fun s => pt s.1) l
theorem ys_fill (l : List (Int × List UInt8 × Unit)) (k : Nat) : fillF (yF l k) l.length l.length = ysL l k := by rw [fill_all]; exact range_get (0, [], ()) (fun s => s.2.1.getD k 0) l

/-! ### a splitting -/
def hsP (hs : List Int) (k : Nat) : Prop := knw (hs.getD k 0) ∧ (k = 0 ∨ hs.getD (k - 1) 0 < hs.getD k 0)
instance (hs : List Int) (k : Nat) : Decidable (hsP hs k) := by unfold hsP; infer_instance
def hsB (hs : List Int) (k : Nat) : Bool := decide (hsP hs k)
def hsOk (hs : List Int) : Bool := (List.range hs.length).all (hsB hs)
def splE (sec : List UInt8) (nd : Int) (hs : List Int) (nz : List UInt8) : Int :=
  if 4096 < sec.length then 2 else if nd < 1 ∨ 12 < nd then 3 else if (hs.length : Int) < nd then 1 else if hsOk hs = false then 1 else if (nz.length : Int) = (sec.length : Int) * (nd - 1) then 0 else 1
/-- The coefficients of a byte. -/
def cfs (nz : List UInt8) (n m k : Nat) : List UInt8 := (List.range m).map fun a => nz.getD (a * n + k) 0
def accL (nz : List UInt8) (n m : Nat) (x : UInt8) (j : Nat) : List UInt8 := (List.range n).map fun k => mulL (horner x ((cfs nz n m k).drop j)) x
def shB (sec nz : List UInt8) (m : Nat) (x : UInt8) : List UInt8 := (List.range sec.length).map fun k => horner x (sec.getD k 0 :: cfs nz sec.length m k)
def shS (sec : List UInt8) (nd : Int) (nz : List UInt8) (h : Int) : (Int × List UInt8 × Unit) := (h, shB sec nz (nd - 1).toNat (pt h), ())
def splL (sec : List UInt8) (nd : Int) (hs : List Int) (nz : List UInt8) : List (Int × List UInt8 × Unit) := if splE sec nd hs nz = 0 then hs.map (shS sec nd nz) else []
theorem spl_len (sec : List UInt8) (nd : Int) (hs : List Int) (nz : List UInt8) : (splL sec nd hs nz).length ≤ hs.length := by
  unfold splL
  split
  · rw [List.length_map]; exact Nat.le_refl _
  · exact Nat.zero_le _
theorem cfs_len (nz : List UInt8) (n m k : Nat) : (cfs nz n m k).length = m := by simp [cfs]
theorem cfs_get {nz : List UInt8} {n m k a : Nat} (h : a < m) : (cfs nz n m k).getD a 0 = nz.getD (a * n + k) 0 := by
  simp [cfs, List.getElem?_map, List.getElem?_range h]
theorem acc_len (nz : List UInt8) (n m : Nat) (x : UInt8) (j : Nat) : (accL nz n m x j).length = n := by simp [accL]
theorem shB_len (sec nz : List UInt8) (m : Nat) (x : UInt8) : (shB sec nz m x).length = sec.length := by simp [shB]
theorem map_range_get {f : Nat → UInt8} {n k : Nat} (h : k < n) : ((List.range n).map f).getD k 0 = f k := by
  simp [List.getElem?_map, List.getElem?_range h]
theorem acc_top (nz : List UInt8) (n m : Nat) (x : UInt8) : accL nz n m x m = List.replicate n 0 := by
  apply ext_get (acc_len ..) (List.length_replicate ..)
  intro k hk
  rw [accL, map_range_get hk, List.drop_of_length_le (by rw [cfs_len]; exact Nat.le_refl _), horner, zero_mul']
  simp [hk]
theorem acc_step {nz : List UInt8} {n m : Nat} {x : UInt8} {j : Nat} (hj : j < m) (hn : nz.length = n * m) {c : List UInt8} (hc : c = (nz.drop (j * n)).take n) : scaleB x (sumB (accL nz n m x (j + 1)) c) = accL nz n m x j := by
  have hle : (j + 1) * n ≤ nz.length := by rw [hn, Nat.mul_comm n m]; exact Nat.mul_le_mul_right n hj
  have hcl : c.length = n := by rw [hc, List.length_take, List.length_drop]; rw [Nat.succ_mul] at hle; omega
  have hsl : (sumB (accL nz n m x (j + 1)) c).length = n := by rw [sum_len, acc_len, hcl]; omega
  refine ext_get (by rw [scale_len, hsl]) (acc_len ..) fun k hk => ?_
  rw [scale_get (by omega), sum_get (by rw [acc_len, hcl]) (by rw [acc_len]; exact hk)]
  unfold accL
  rw [map_range_get hk, map_range_get hk, horner_drop x (cfs nz n m k) j (by rw [cfs_len]; exact hj), cfs_get hj, mul_comm' x]
  have : c.getD k 0 = nz.getD (j * n + k) 0 := by
    rw [hc, List.getD_eq_getElem?_getD, List.getD_eq_getElem?_getD, List.getElem?_take, if_pos hk, List.getElem?_drop]
  rw [this]
theorem acc_end {sec nz : List UInt8} {m : Nat} {x : UInt8} : sumB (accL nz sec.length m x 0) sec = shB sec nz m x := by
  refine ext_get (by rw [sum_len, acc_len]; omega) (shB_len ..) fun k hk => ?_
  rw [sum_get (acc_len ..) (by rw [acc_len]; exact hk)]
  unfold accL shB
  rw [map_range_get hk, map_range_get hk, List.drop_zero]
  rfl

def outL (sec : List UInt8) (nd : Int) (hs : List Int) (nz : List UInt8) (k : Nat) : List (Int × List UInt8 × Unit) := (List.range hs.length).map fun i => if i < k then shS sec nd nz (hs.getD i 0) else (0, [], ())
theorem out_len (sec : List UInt8) (nd : Int) (hs : List Int) (nz : List UInt8) (k : Nat) : (outL sec nd hs nz k).length = hs.length := by simp [outL]
theorem out_zero (sec : List UInt8) (nd : Int) (hs : List Int) (nz : List UInt8) : outL sec nd hs nz 0 = List.replicate hs.length (0, [], ()) := by
  apply List.ext_getElem
  · simp [outL]
  · intro i h1 h2; simp [outL]
theorem out_set {sec : List UInt8} {nd : Int} {hs : List Int} {nz : List UInt8} {k : Nat} (h : k < hs.length) {x : (Int × List UInt8 × Unit)} (hx : x = shS sec nd nz (hs.getD k 0)) : (outL sec nd hs nz k).set k x = outL sec nd hs nz (k + 1) := by
  subst hx
  apply List.ext_getElem
  · simp [outL]
  · intro i h1 h2
    rw [List.getElem_set]
    simp only [outL, List.getElem_map, List.getElem_range]
    by_cases e : k = i
    · subst e; simp
    · rw [if_neg e]
      by_cases g : i < k
      · rw [if_pos g, if_pos (by omega)]
      · rw [if_neg g, if_neg (by omega)]
theorem out_all {sec : List UInt8} {nd : Int} {hs : List Int} {nz : List UInt8} {k : Nat} (h : hs.length ≤ k) : outL sec nd hs nz k = hs.map (shS sec nd nz) := by
  rw [← range_get 0 (shS sec nd nz) hs]
  apply List.map_congr_left
  intro i hi
  rw [List.mem_range] at hi
  rw [if_pos (by omega)]
theorem hs_next {l : List Int} {k : Nat} (h : ∀ j, j < k → hsB l j = true) (hk : hsB l k = true) : ∀ j, j < k + 1 → hsB l j = true := fun j hj => by
  rcases Nat.lt_or_eq_of_le (Nat.le_of_lt_succ hj) with g | g
  · exact h j g
  · rw [g]; exact hk
theorem hs_all {l : List Int} {k : Nat} (h : ∀ j, j < k → hsB l j = true) (hk : l.length ≤ k) : hsOk l = true := List.all_eq_true.2 fun j hj => h j (by have := List.mem_range.1 hj; omega)
theorem hs_bad {l : List Int} {k : Nat} (h : ¬ hsP l k) (hk : k < l.length) : hsOk l = false := rangeBad hk (show hsB l k = false from decide_eq_false h)
theorem hs_get {l : List Int} (h : hsOk l = true) {k : Nat} (hk : k < l.length) : knw (l.getD k 0) ∧ (k = 0 ∨ l.getD (k - 1) 0 < l.getD k 0) := of_decide_eq_true (List.all_eq_true.1 h k (List.mem_range.2 hk))
theorem hs_yes {l : List Int} {k : Nat} (h1 : knw (l.getD k 0)) (h2 : k = 0 ∨ ¬ l.getD k 0 ≤ l.getD ((k : Int) - 1).toNat 0) : hsB l k = true := by
  refine decide_eq_true ⟨h1, ?_⟩
  rcases h2 with h | h
  · exact .inl h
  · rw [show ((k : Int) - 1).toNat = k - 1 by omega] at h; exact .inr (by omega)
theorem mul_bd {a b : Int} {A B : Nat} (ha : 0 ≤ a) (hA : a ≤ A) (hb : 0 ≤ b) (hB : b ≤ B) : 0 ≤ a * b ∧ a * b ≤ ((A * B : Nat) : Int) := by
  obtain ⟨x, rfl⟩ := Int.eq_ofNat_of_zero_le ha
  obtain ⟨y, rfl⟩ := Int.eq_ofNat_of_zero_le hb
  have := Nat.mul_le_mul (Int.ofNat_le.1 hA) (Int.ofNat_le.1 hB)
  rw [← Int.natCast_mul]
  exact ⟨Int.natCast_nonneg _, Int.ofNat_le.2 this⟩

/-! ### what joins -/
def jnE (l : List (Int × List UInt8 × Unit)) (nd : Int) : Int := if (l.length : Int) < nd then 29 else if (List.range (lnS l)).all (fun k => decide ((tpL (xsL l) (ysL l k) (nd - 1)).2 = 0)) = true then 0 else 14
def jnK (l : List (Int × List UInt8 × Unit)) (nd : Int) (x : UInt8) (k : Nat) : List UInt8 := (List.range k).map fun i => horner x (tpL (xsL l) (ysL l i) (nd - 1)).1
def jnS (l : List (Int × List UInt8 × Unit)) (nd : Int) (x : UInt8) : List UInt8 := if jnE l nd = 0 then jnK l nd x (lnS l) else []
theorem jnK_len (l : List (Int × List UInt8 × Unit)) (nd : Int) (x : UInt8) (k : Nat) : (jnK l nd x k).length = k := by simp [jnK]
theorem jnK_snoc (l : List (Int × List UInt8 × Unit)) (nd : Int) (x : UInt8) (k : Nat) : jnK l nd x (k + 1) = jnK l nd x k ++ [horner x (tpL (xsL l) (ysL l k) (nd - 1)).1] := by unfold jnK; rw [List.range_succ, List.map_append]; rfl
theorem jnS_len {l : List (Int × List UInt8 × Unit)} {nd : Int} {x : UInt8} : (jnS l nd x).length ≤ lnS l := by
  unfold jnS
  split
  · rw [jnK_len]; exact Nat.le_refl _
  · simp
def rdE (l : List (Int × List UInt8 × Unit)) (nd : Int) : Int := if chkE l = 0 then (if nd < 1 ∨ 12 < nd then 3 else 0) else chkE l
theorem rd0 {l : List (Int × List UInt8 × Unit)} {nd : Int} (h : rdE l nd = 0) : chkE l = 0 ∧ 1 ≤ nd ∧ nd ≤ 12 := by
  unfold rdE at h
  split at h
  · rename_i h1
    split at h
    · cases h
    · exact ⟨h1, by omega, by omega⟩
  · rename_i h1; exact absurd h h1
def joE (l : List (Int × List UInt8 × Unit)) (nd : Int) : Int := if rdE l nd = 0 then jnE l nd else rdE l nd
def joS (l : List (Int × List UInt8 × Unit)) (nd : Int) (x : UInt8) : List UInt8 := if rdE l nd = 0 then jnS l nd x else []
def exE (l : List (Int × List UInt8 × Unit)) (nd h : Int) : Int := if rdE l nd = 0 then (if knw h then jnE l nd else 1) else rdE l nd
def exH (l : List (Int × List UInt8 × Unit)) (nd h : Int) : Int := if exE l nd h = 0 then h else 0
def exS (l : List (Int × List UInt8 × Unit)) (nd h : Int) : List UInt8 := if exE l nd h = 0 then jnS l nd (pt h) else []
def ftN (l : List (Int × List UInt8 × Unit)) (nd : Int) (s : List UInt8) : Int := if rdE l nd = 0 ∧ s.length ≤ 4096 ∧ (l.length = 0 ∨ lnS l = s.length) ∧ 0 ≤ nd - 1 - (l.length : Int) then (nd - 1 - (l.length : Int)) * (s.length : Int) else 0
def ftP (l : List (Int × List UInt8 × Unit)) (nd : Int) (s : List UInt8) : Prop := rdE l nd = 0 ∧ s.length ≤ 4096 ∧ (l.length = 0 ∨ lnS l = s.length) ∧ (0 ≤ nd - 1 - (l.length : Int) ∨ (jnE l nd = 0 ∧ jnS l nd 0 = s))
instance (l : List (Int × List UInt8 × Unit)) (nd : Int) (s : List UInt8) : Decidable (ftP l nd s) := by unfold ftP; infer_instance
def adE (a b : (Int × List UInt8 × Unit)) : Int := if chkE [a] = 0 then (if chkE [b] = 0 then (if a.1 = b.1 ∧ a.2.1.length = b.2.1.length then 0 else 1) else chkE [b]) else chkE [a]
def adH (a b : (Int × List UInt8 × Unit)) : Int := if adE a b = 0 then a.1 else 0
def adS (a b : (Int × List UInt8 × Unit)) : List UInt8 := if adE a b = 0 then sumB a.2.1 b.2.1 else []

theorem jn29 {l : List (Int × List UInt8 × Unit)} {nd : Int} (h : (l.length : Int) < nd) : jnE l nd = 29 := if_pos h
theorem jn14 {l : List (Int × List UInt8 × Unit)} {nd : Int} (h : ¬ (l.length : Int) < nd) {k : Nat} (hk : k < lnS l) (hb : (tpL (xsL l) (ysL l k) (nd - 1)).2 ≠ 0) : jnE l nd = 14 := by
  unfold jnE
  rw [if_neg h, if_neg]
  rw [rangeBad hk (decide_eq_false hb)]
  decide
theorem jn0 {l : List (Int × List UInt8 × Unit)} {nd : Int} (h : ¬ (l.length : Int) < nd) (ha : ∀ k, k < lnS l → (tpL (xsL l) (ysL l k) (nd - 1)).2 = 0) : jnE l nd = 0 := by
  unfold jnE
  rw [if_neg h, if_pos (List.all_eq_true.2 fun k hk => decide_eq_true (ha k (List.mem_range.1 hk)))]
theorem jn0' {l : List (Int × List UInt8 × Unit)} {nd : Int} (h : jnE l nd = 0) : nd ≤ (l.length : Int) ∧ ∀ k, k < lnS l → (tpL (xsL l) (ysL l k) (nd - 1)).2 = 0 := by
  unfold jnE at h
  split at h
  · cases h
  · rename_i h1
    split at h
    · rename_i h2
      exact ⟨by omega, fun k hk => of_decide_eq_true (List.all_eq_true.1 h2 k (List.mem_range.2 hk))⟩
    · cases h
theorem jnS0 {l : List (Int × List UInt8 × Unit)} {nd : Int} {x : UInt8} (h : jnE l nd = 0) : jnS l nd x = jnK l nd x (lnS l) := if_pos h
theorem jnSn {l : List (Int × List UInt8 × Unit)} {nd : Int} {x : UInt8} (h : jnE l nd ≠ 0) : jnS l nd x = [] := if_neg h
theorem up_next {P : Nat → Prop} {k : Nat} (h : ∀ j, j < k → P j) (hk : P k) : ∀ j, j < k + 1 → P j := fun j hj => by
  rcases Nat.lt_or_eq_of_le (Nat.le_of_lt_succ hj) with g | g
  · exact h j g
  · rw [g]; exact hk

end Go.Proofs.YtogipicegdbhdaaDoor.S40

namespace Go.Proofs.YtogipicegdbhdaaDoor.S40
open Go Go.Proofs.YtogipicegdbhdaaDoor.Vc Go.Proofs
set_option maxRecDepth 100000
set_option linter.unusedVariables false

def sZCk1 : List V → Option (Prop × V × List Blk)
  | [.agg [.int .i64 h, .str s]] => some (True, .b (smB (h, s, ()) = false), [])
  | _ => none
set_option maxHeartbeats 1000000 in
theorem bZCk1 (h : Int) (s : List UInt8)  : bodyP (En CMk tys G6 []) Tryd.f96 [.k] [.agg [.int .i64 h, .str s]] (.b (smB (h, s, ()) = false)) [] := by
  exact ⟨rfl, rfl, congrArg V.b (propext (by show _ ↔ decide (s.length ≤ 4096) = false; rw [decide_eq_false_iff_not]; constructor <;> intro g <;> omega)), rfl⟩
def CZCk1 : List (Nat × Con) := (96, pureC [.v (.cons (.int .i64) (.cons .str .nil))] sZCk1) :: CMk
theorem kZCk1 : Known Tryd.prog (En CZCk1 tys G6 []) := kMk.add Tryd.func96 Tryd.call96 [.k] fun ds p v bs h hp => by
  unfold sZCk1 at h
  split at h <;> simp only [Option.some.injEq, Prod.mk.injEq, reduceCtorEq] at h
  obtain ⟨rfl, rfl, rfl⟩ := h
  exact bZCk1 _ _
set_option maxHeartbeats 1000000 in
theorem bIxf0 (l : List (Int × (List UInt8 × Unit))) (hp0 : l.length ≤ 1048576) : bodyP (En CZCk1 tys G6 []) Tryd.f111 [.k] [.sl false (.cons (.int .i64) (.cons .str .nil)) l, .fn 96 []] (.int .i64 (ixF l)) [] := by
  refine ⟨0, [(0, .k), (1, .k), (7, .k), (8, .k)], fun nM vs H => ∃ (k : Nat), k ≤ l.length ∧ (l.take k).all smB = true ∧ nM = l.length - k ∧ vs = [.sl false (.cons (.int .i64) (.cons .str .nil)) l, .fn 96 [], .int .i64 (l.length : Int), .int .i64 (k : Int)] ∧ H = [], ⟨rfl, l.length, 0, by omega, rfl, by omega, rfl, rfl⟩, ?_⟩
  rintro nM vs H ⟨k, hc1_0, hc1_1, rfl, rfl, rfl⟩
  refine ⟨fun h0 => ?_, fun h0 => ?_⟩
  · replace h0 : (k : Int) < (l.length : Int) := h0
    have hk : k < l.length := by omega
    refine ⟨⟨by show (0 : Int) ≤ (k : Int); omega, by show (k : Int) < (l.length : Int); omega⟩, rfl, trivial, fun h1 => ?_, fun h1 => ?_⟩
    · replace h1 : smB (((l.getD k (0, ([], ()))).1), (((l.getD k (0, ([], ()))).2).1), ()) = false := h1
      rw [ixF_at hk hc1_1 h1]
      exact ⟨rfl, rfl, rfl, rfl⟩
    · replace h1 : ¬ (smB (((l.getD k (0, ([], ()))).1), (((l.getD k (0, ([], ()))).2).1), ()) = false) := h1
      have hok : smB (l.getD k (0, [], ())) = true := by simpa using h1
      refine ⟨⟨by show (-9223372036854775808 : Int) ≤ ((k : Int) + 1); omega, by show ((k : Int) + 1) ≤ (9223372036854775807 : Int); omega⟩, ?_⟩
      exact ⟨rfl, l.length - (k + 1), by omega, k + 1, by omega, take_all hk hc1_1 hok, rfl, rfl, rfl⟩
  · replace h0 : ¬ ((k : Int) < (l.length : Int)) := h0
    rw [ixF_all (by omega) hc1_1]
    exact ⟨rfl, rfl, rfl, rfl⟩
def sIxf : List V → Option (Prop × V × List Blk)
  | [.sl false (.cons (.int .i64) (.cons .str .nil)) l, .fn 96 []] => some (l.length ≤ 1048576, .int .i64 (ixF l), [])
  | _ => none
def CIxf : List (Nat × Con) := (111, pureC [.v (.sl (.cons (.int .i64) (.cons .str .nil))), .fn [(96, [])]] sIxf) :: CZCk1
theorem kIxf : Known Tryd.prog (En CIxf tys G6 []) := kZCk1.add Tryd.func111 Tryd.call111 [.k] fun ds p v bs h hp => by
  unfold sIxf at h
  split at h <;> simp only [Option.some.injEq, Prod.mk.injEq, reduceCtorEq] at h
  · obtain ⟨rfl, rfl, rfl⟩ := h
    exact bIxf0 _ hp
set_option maxHeartbeats 1000000 in
theorem bCtf0 (l : List (Int × (List UInt8 × Unit))) (hp0 : l.length ≤ 1048576) : bodyP (En CIxf tys G6 []) Tryd.f95 [.k] [.sl false (.cons (.int .i64) (.cons .str .nil)) l, .fn 96 []] (.b (l.all smB = false)) [] := by
  refine ⟨by show l.length ≤ 1048576; first | omega | assumption, ?_⟩
  exact ⟨rfl, rfl, congrArg V.b (propext (ixF_ge l)), rfl⟩
def sCtf : List V → Option (Prop × V × List Blk)
  | [.sl false (.cons (.int .i64) (.cons .str .nil)) l, .fn 96 []] => some (l.length ≤ 1048576, .b (l.all smB = false), [])
  | _ => none
def CCtf : List (Nat × Con) := (95, pureC [.v (.sl (.cons (.int .i64) (.cons .str .nil))), .fn [(96, [])]] sCtf) :: CIxf
theorem kCtf : Known Tryd.prog (En CCtf tys G6 []) := kIxf.add Tryd.func95 Tryd.call95 [.k] fun ds p v bs h hp => by
  unfold sCtf at h
  split at h <;> simp only [Option.some.injEq, Prod.mk.injEq, reduceCtorEq] at h
  · obtain ⟨rfl, rfl, rfl⟩ := h
    exact bCtf0 _ hp
def sZHou : List V → Option (Prop × V × List Blk)
  | [.int .i64 h] => some (True, .b (knw h), [])
  | _ => none
set_option maxHeartbeats 1000000 in
theorem bZHou (h : Int)  : bodyP (En CCtf tys G6 []) Tryd.f44 [.k] [.int .i64 h] (.b (knw h)) [] := by
  refine ⟨fun h0 => ?_, fun h0 => ?_⟩
  · replace h0 : 0 ≤ h := h0
    exact ⟨rfl, rfl, congrArg V.b (propext (by unfold knw; constructor <;> intro g <;> first | omega | exact Bool.noConfusion g | (exfalso; omega))), rfl⟩
  · replace h0 : ¬ (0 ≤ h) := h0
    exact ⟨rfl, rfl, congrArg V.b (propext (by unfold knw; constructor <;> intro g <;> first | omega | exact Bool.noConfusion g | (exfalso; omega))), rfl⟩
def CZHou : List (Nat × Con) := (44, pureC [.v (.int .i64)] sZHou) :: CCtf
theorem kZHou : Known Tryd.prog (En CZHou tys G6 []) := kCtf.add Tryd.func44 Tryd.call44 [.k] fun ds p v bs h hp => by
  unfold sZHou at h
  split at h <;> simp only [Option.some.injEq, Prod.mk.injEq, reduceCtorEq] at h
  obtain ⟨rfl, rfl, rfl⟩ := h
  exact bZHou _
def sZPoi : List V → Option (Prop × V × List Blk)
  | [.int .i64 h] => some (0 ≤ h ∧ h < 1000000, .u8 (pt h), [])
  | _ => none
set_option maxHeartbeats 1000000 in
theorem bZPoi (h : Int) (hp0 : 0 ≤ h) (hp1 : h < 1000000) : bodyP (En CZHou tys G6 []) Tryd.f46 [.k] [.int .i64 h] (.u8 (pt h)) [] := by
  refine ⟨⟨by show (-9223372036854775808 : Int) ≤ (h + 1); omega, by show (h + 1) ≤ (9223372036854775807 : Int); omega⟩, ?_⟩
  exact ⟨rfl, rfl, rfl, rfl⟩
def CZPoi : List (Nat × Con) := (46, pureC [.v (.int .i64)] sZPoi) :: CZHou
theorem kZPoi : Known Tryd.prog (En CZPoi tys G6 []) := kZHou.add Tryd.func46 Tryd.call46 [.k] fun ds p v bs h hp => by
  unfold sZPoi at h
  split at h <;> simp only [Option.some.injEq, Prod.mk.injEq, reduceCtorEq] at h
  obtain ⟨rfl, rfl, rfl⟩ := h
  exact bZPoi _ hp.1 hp.2
def sZChk : List V → Option (Prop × V × List Blk)
  | [.sl false (.cons (.int .i64) (.cons .str .nil)) l] => some (l.length ≤ 1048576, .int .i64 (chkE l), [])
  | _ => none
set_option maxHeartbeats 1000000 in
theorem bZChk (l : List (Int × (List UInt8 × Unit))) (hp0 : l.length ≤ 1048576) : bodyP (En CZPoi tys G6 []) Tryd.f76 [.k] [.sl false (.cons (.int .i64) (.cons .str .nil)) l] (.int .i64 (chkE l)) [] := by
  refine ⟨fun h0 => ?_, fun h0 => ?_⟩
  · replace h0 : ¬ (12 < (l.length : Int)) := h0
    refine ⟨by show l.length ≤ 1048576; first | omega | assumption, fun h1 => ?_, fun h1 => ?_⟩
    · replace h1 : l.all smB = false := h1
      rw [chk2 (.inr h1)]
      exact ⟨rfl, rfl, rfl, rfl⟩
    · replace h1 : ¬ (l.all smB = false) := h1
      refine ⟨0, [(0, .k), (12, .k), (13, .k), (14, .k)], fun nM vs H => ∃ (k : Nat), k ≤ l.length ∧ (∀ j, j < k → okS l j = true) ∧ nM = l.length - k ∧ vs = [.sl false (.cons (.int .i64) (.cons .str .nil)) l, .sl false (.cons (.int .i64) (.cons .str .nil)) l, .int .i64 (l.length : Int), .int .i64 (k : Int)] ∧ H = [], ⟨rfl, l.length, 0, by omega, fun j h => absurd h (Nat.not_lt_zero j), by omega, rfl, rfl⟩, ?_⟩
      rintro nM vs H ⟨k, hc1_0, hc1_1, rfl, rfl, rfl⟩
      refine ⟨fun h2 => ?_, fun h2 => ?_⟩
      · replace h2 : (k : Int) < (l.length : Int) := h2
        have hk : k < l.length := by omega
        refine ⟨⟨by show (0 : Int) ≤ (k : Int); omega, by show (k : Int) < (l.length : Int); omega⟩, ⟨rfl, rfl, rfl, Nat.le_of_ble_eq_true rfl⟩, by kernel_rfl, rfl, trivial, fun h3 => ?_, fun h3 => ?_⟩
        · replace h3 : ¬ (¬ (knw ((l.getD k (0, ([], ()))).1))) := h3
          refine ⟨fun h4 => ?_, fun h4 => absurd h4 (show ¬ (¬ (knw ((l.getD k (0, ([], ()))).1))) by first | omega | assumption | simp_all)⟩
          refine ⟨fun h5 => ?_, fun h5 => absurd h5 (show ¬ (¬ (knw ((l.getD k (0, ([], ()))).1))) by first | omega | assumption | simp_all)⟩
          refine ⟨fun h6 => ?_, fun h6 => ?_⟩
          · replace h6 : 0 < (k : Int) := h6
            refine ⟨fun h7 => ?_, fun h7 => absurd (show 0 < (k : Int) by first | omega | assumption | simp_all) h7⟩
            refine ⟨fun h8 => ?_, fun h8 => absurd (show 0 < (k : Int) by first | omega | assumption | simp_all) h8⟩
            refine ⟨⟨by show (-9223372036854775808 : Int) ≤ ((k : Int) - 1); omega, by show ((k : Int) - 1) ≤ (9223372036854775807 : Int); omega⟩, fun h9 => ?_, fun h9 => absurd (show 0 < (k : Int) by first | omega | assumption | simp_all) h9⟩
            refine ⟨⟨by show (0 : Int) ≤ ((k : Int) - 1); omega, by show ((k : Int) - 1) < (l.length : Int); omega⟩, fun h10 => ?_, fun h10 => absurd (show 0 < (k : Int) by first | omega | assumption | simp_all) h10⟩
            refine ⟨fun h11 => ?_, fun h11 => absurd (show 0 < (k : Int) by first | omega | assumption | simp_all) h11⟩
            refine ⟨fun h12 => ?_, fun h12 => absurd (show 0 < (k : Int) by first | omega | assumption | simp_all) h12⟩
            refine ⟨fun h13 => ?_, fun h13 => absurd (show 0 < (k : Int) by first | omega | assumption | simp_all) h13⟩
            refine ⟨fun h14 => ?_, fun h14 => absurd (show 0 < (k : Int) by first | omega | assumption | simp_all) h14⟩
            refine ⟨fun h15 => ?_, fun h15 => absurd h15 (show ¬ (¬ (knw ((l.getD k (0, ([], ()))).1))) by first | omega | assumption | simp_all)⟩
            refine ⟨fun h16 => ?_, fun h16 => absurd (show 0 < (k : Int) by first | omega | assumption | simp_all) h16⟩
            refine ⟨fun h17 => absurd h17 (show ¬ (¬ (knw ((l.getD k (0, ([], ()))).1))) by first | omega | assumption | simp_all), fun h17 => ?_⟩
            refine ⟨fun h18 => ?_, fun h18 => ?_⟩
            · replace h18 : ¬ (((l.getD k (0, ([], ()))).1) ≤ ((l.getD (((k : Int) - 1).toNat) (0, ([], ()))).1)) := h18
              refine ⟨fun h19 => ?_, fun h19 => absurd h19 (show ¬ (((l.getD k (0, ([], ()))).1) ≤ ((l.getD (((k : Int) - 1).toNat) (0, ([], ()))).1)) by first | omega | assumption | simp_all)⟩
              refine ⟨fun h20 => ?_, fun h20 => absurd h20 (show ¬ (((l.getD k (0, ([], ()))).1) ≤ ((l.getD (((k : Int) - 1).toNat) (0, ([], ()))).1)) by first | omega | assumption | simp_all)⟩
              refine ⟨fun h21 => ?_, fun h21 => absurd h21 (show ¬ (((l.getD k (0, ([], ()))).1) ≤ ((l.getD (((k : Int) - 1).toNat) (0, ([], ()))).1)) by first | omega | assumption | simp_all)⟩
              refine ⟨fun h22 => ?_, fun h22 => absurd h22 (show ¬ (((l.getD k (0, ([], ()))).1) ≤ ((l.getD (((k : Int) - 1).toNat) (0, ([], ()))).1)) by first | omega | assumption | simp_all)⟩
              refine ⟨⟨by show (0 : Int) ≤ 0; omega, by show 0 < (l.length : Int); omega⟩, fun h23 => ?_, fun h23 => absurd h23 (show ¬ (((l.getD k (0, ([], ()))).1) ≤ ((l.getD (((k : Int) - 1).toNat) (0, ([], ()))).1)) by first | omega | assumption | simp_all)⟩
              refine ⟨fun h24 => ?_, fun h24 => absurd h24 (show ¬ (((l.getD k (0, ([], ()))).1) ≤ ((l.getD (((k : Int) - 1).toNat) (0, ([], ()))).1)) by first | omega | assumption | simp_all)⟩
              refine ⟨fun h25 => ?_, fun h25 => absurd h25 (show ¬ (((l.getD k (0, ([], ()))).1) ≤ ((l.getD (((k : Int) - 1).toNat) (0, ([], ()))).1)) by first | omega | assumption | simp_all)⟩
              refine ⟨fun h26 => ?_, fun h26 => absurd h26 (show ¬ (((l.getD k (0, ([], ()))).1) ≤ ((l.getD (((k : Int) - 1).toNat) (0, ([], ()))).1)) by first | omega | assumption | simp_all)⟩
              refine ⟨fun h27 => absurd h27 (show ¬ (((l.getD k (0, ([], ()))).1) ≤ ((l.getD (((k : Int) - 1).toNat) (0, ([], ()))).1)) by first | omega | assumption | simp_all), fun h27 => ?_⟩
              refine ⟨fun h28 => ?_, fun h28 => ?_⟩
              · replace h28 : (((((l.getD k (0, ([], ()))).2).1).length : Nat) : Int) ≠ (((((l.getD 0 (0, ([], ()))).2).1).length : Nat) : Int) := h28
                have e : chkE l = 1 := chk1 (by omega) h1 hk (fun g => by have := g.2.2; unfold lnS at this; omega)
                rw [e]
                exact ⟨rfl, rfl, rfl, rfl⟩
              · replace h28 : ¬ ((((((l.getD k (0, ([], ()))).2).1).length : Nat) : Int) ≠ (((((l.getD 0 (0, ([], ()))).2).1).length : Nat) : Int)) := h28
                have hok := okS_yes (l := l) (Classical.not_not.1 h3) (.inr h18) h28
                refine ⟨⟨by show (-9223372036854775808 : Int) ≤ ((k : Int) + 1); omega, by show ((k : Int) + 1) ≤ (9223372036854775807 : Int); omega⟩, ?_⟩
                exact ⟨rfl, l.length - (k + 1), by omega, k + 1, by omega, ok_next hc1_1 hok, rfl, rfl, rfl⟩
            · replace h18 : ((l.getD k (0, ([], ()))).1) ≤ ((l.getD (((k : Int) - 1).toNat) (0, ([], ()))).1) := h18
              refine ⟨fun h29 => absurd (show ((l.getD k (0, ([], ()))).1) ≤ ((l.getD (((k : Int) - 1).toNat) (0, ([], ()))).1) by first | omega | assumption | simp_all) h29, fun h29 => ?_⟩
              refine ⟨fun h30 => absurd (show ((l.getD k (0, ([], ()))).1) ≤ ((l.getD (((k : Int) - 1).toNat) (0, ([], ()))).1) by first | omega | assumption | simp_all) h30, fun h30 => ?_⟩
              refine ⟨fun h31 => absurd (show ((l.getD k (0, ([], ()))).1) ≤ ((l.getD (((k : Int) - 1).toNat) (0, ([], ()))).1) by first | omega | assumption | simp_all) h31, fun h31 => ?_⟩
              refine ⟨fun h32 => absurd (show ((l.getD k (0, ([], ()))).1) ≤ ((l.getD (((k : Int) - 1).toNat) (0, ([], ()))).1) by first | omega | assumption | simp_all) h32, fun h32 => ?_⟩
              refine ⟨fun h33 => absurd (show ((l.getD k (0, ([], ()))).1) ≤ ((l.getD (((k : Int) - 1).toNat) (0, ([], ()))).1) by first | omega | assumption | simp_all) h33, fun h33 => ?_⟩
              refine ⟨fun h34 => absurd (show ((l.getD k (0, ([], ()))).1) ≤ ((l.getD (((k : Int) - 1).toNat) (0, ([], ()))).1) by first | omega | assumption | simp_all) h34, fun h34 => ?_⟩
              refine ⟨fun h35 => absurd (show ((l.getD k (0, ([], ()))).1) ≤ ((l.getD (((k : Int) - 1).toNat) (0, ([], ()))).1) by first | omega | assumption | simp_all) h35, fun h35 => ?_⟩
              refine ⟨fun h36 => absurd (show ((l.getD k (0, ([], ()))).1) ≤ ((l.getD (((k : Int) - 1).toNat) (0, ([], ()))).1) by first | omega | assumption | simp_all) h36, fun h36 => ?_⟩
              refine ⟨fun h37 => ?_, fun h37 => absurd (show ((l.getD k (0, ([], ()))).1) ≤ ((l.getD (((k : Int) - 1).toNat) (0, ([], ()))).1) by first | omega | assumption | simp_all) h37⟩
              have e : chkE l = 1 := chk1 (by omega) h1 hk (fun g => by rw [show ((k : Int) - 1).toNat = k - 1 by omega] at h18; have := g.2.1; omega)
              rw [e]
              exact ⟨rfl, rfl, rfl, rfl⟩
          · replace h6 : ¬ (0 < (k : Int)) := h6
            refine ⟨fun h38 => absurd h38 (show ¬ (0 < (k : Int)) by first | omega | assumption | simp_all), fun h38 => ?_⟩
            refine ⟨fun h39 => absurd h39 (show ¬ (0 < (k : Int)) by first | omega | assumption | simp_all), fun h39 => ?_⟩
            refine ⟨fun h40 => absurd h40 (show ¬ (0 < (k : Int)) by first | omega | assumption | simp_all), fun h40 => ?_⟩
            refine ⟨fun h41 => absurd h41 (show ¬ (0 < (k : Int)) by first | omega | assumption | simp_all), fun h41 => ?_⟩
            refine ⟨fun h42 => absurd h42 (show ¬ (0 < (k : Int)) by first | omega | assumption | simp_all), fun h42 => ?_⟩
            refine ⟨fun h43 => absurd h43 (show ¬ (0 < (k : Int)) by first | omega | assumption | simp_all), fun h43 => ?_⟩
            refine ⟨fun h44 => absurd h44 (show ¬ (0 < (k : Int)) by first | omega | assumption | simp_all), fun h44 => ?_⟩
            refine ⟨fun h45 => absurd h45 (show ¬ (0 < (k : Int)) by first | omega | assumption | simp_all), fun h45 => ?_⟩
            refine ⟨fun h46 => ?_, fun h46 => absurd h46 (show ¬ (¬ (knw ((l.getD k (0, ([], ()))).1))) by first | omega | assumption | simp_all)⟩
            refine ⟨fun h47 => absurd h47 (show ¬ (0 < (k : Int)) by first | omega | assumption | simp_all), fun h47 => ?_⟩
            refine ⟨fun h48 => absurd h48 (show ¬ (¬ (knw ((l.getD k (0, ([], ()))).1))) by first | omega | assumption | simp_all), fun h48 => ?_⟩
            refine ⟨⟨by show (0 : Int) ≤ 0; omega, by show 0 < (l.length : Int); omega⟩, fun h49 => ?_, fun h49 => ?_⟩
            · replace h49 : (((((l.getD k (0, ([], ()))).2).1).length : Nat) : Int) ≠ (((((l.getD 0 (0, ([], ()))).2).1).length : Nat) : Int) := h49
              have e : chkE l = 1 := chk1 (by omega) h1 hk (fun g => by have := g.2.2; unfold lnS at this; omega)
              rw [e]
              exact ⟨rfl, rfl, rfl, rfl⟩
            · replace h49 : ¬ ((((((l.getD k (0, ([], ()))).2).1).length : Nat) : Int) ≠ (((((l.getD 0 (0, ([], ()))).2).1).length : Nat) : Int)) := h49
              have hok := okS_yes (l := l) (Classical.not_not.1 h3) (.inl (by omega)) h49
              refine ⟨⟨by show (-9223372036854775808 : Int) ≤ ((k : Int) + 1); omega, by show ((k : Int) + 1) ≤ (9223372036854775807 : Int); omega⟩, ?_⟩
              exact ⟨rfl, l.length - (k + 1), by omega, k + 1, by omega, ok_next hc1_1 hok, rfl, rfl, rfl⟩
        · replace h3 : ¬ (knw ((l.getD k (0, ([], ()))).1)) := h3
          refine ⟨fun h50 => absurd (show ¬ (knw ((l.getD k (0, ([], ()))).1)) by first | omega | assumption | simp_all) h50, fun h50 => ?_⟩
          refine ⟨fun h51 => absurd (show ¬ (knw ((l.getD k (0, ([], ()))).1)) by first | omega | assumption | simp_all) h51, fun h51 => ?_⟩
          refine ⟨fun h52 => absurd (show ¬ (knw ((l.getD k (0, ([], ()))).1)) by first | omega | assumption | simp_all) h52, fun h52 => ?_⟩
          refine ⟨fun h53 => ?_, fun h53 => absurd (show ¬ (knw ((l.getD k (0, ([], ()))).1)) by first | omega | assumption | simp_all) h53⟩
          have e : chkE l = 1 := chk1 (by omega) h1 hk (fun g => h3 g.1)
          rw [e]
          exact ⟨rfl, rfl, rfl, rfl⟩
      · replace h2 : ¬ ((k : Int) < (l.length : Int)) := h2
        rw [chk0'' (by omega) h1 hc1_1 (by omega)]
        exact ⟨rfl, rfl, rfl, rfl⟩
  · replace h0 : 12 < (l.length : Int) := h0
    rw [chk2 (.inl (by omega))]
    exact ⟨rfl, rfl, rfl, rfl⟩
def CZChk : List (Nat × Con) := (76, pureC [.v (.sl (.cons (.int .i64) (.cons .str .nil)))] sZChk) :: CZPoi
theorem kZChk : Known Tryd.prog (En CZChk tys G6 []) := kZPoi.add Tryd.func76 Tryd.call76 [.k] fun ds p v bs h hp => by
  unfold sZChk at h
  split at h <;> simp only [Option.some.injEq, Prod.mk.injEq, reduceCtorEq] at h
  obtain ⟨rfl, rfl, rfl⟩ := h
  exact bZChk _ hp
end Go.Proofs.YtogipicegdbhdaaDoor.S40

namespace Go.Proofs.YtogipicegdbhdaaDoor.S40
open Go Go.Proofs.YtogipicegdbhdaaDoor.Vc Go.Proofs
set_option maxRecDepth 100000
set_option linter.unusedVariables false

def sZSpl : List V → Option (Prop × V × List Blk)
  | [.str s, .int .i64 nd, .sl false (.int .i64) hs, .str nz] => some (s.length ≤ 1048576 ∧ hs.length ≤ 1048576 ∧ nz.length ≤ 1048576, .tup [.own (.cons (.int .i64) (.cons .str .nil)) 0, .int .i64 (splE s nd hs nz)], [.row true (.cons (.int .i64) (.cons .str .nil)) (splL s nd hs nz)])
  | _ => none
set_option maxHeartbeats 2000000 in
theorem bZSpl (s : List UInt8) (nd : Int) (hs : List Int) (nz : List UInt8) (hp0 : s.length ≤ 1048576) (hp1 : hs.length ≤ 1048576) (hp2 : nz.length ≤ 1048576) : bodyP (En CZChk tys G6 []) Tryd.f18 [.o (.cons (.int .i64) (.cons .str .nil)), .k] [.str s, .int .i64 nd, .sl false (.int .i64) hs, .str nz] (.tup [.own (.cons (.int .i64) (.cons .str .nil)) 0, .int .i64 (splE s nd hs nz)]) [.row true (.cons (.int .i64) (.cons .str .nil)) (splL s nd hs nz)] := by
  refine ⟨fun h0 => ?_, fun h0 => ?_⟩
  · replace h0 : 4096 < (s.length : Int) := h0
    have e : splE s nd hs nz = 2 := by unfold splE; rw [if_pos (by omega)]
    rw [splL, if_neg (by rw [e]; decide), e]
    exact ⟨rfl, rfl, rfl, rfl⟩
  · replace h0 : ¬ (4096 < (s.length : Int)) := h0
    refine ⟨fun h1 => ?_, fun h1 => ?_⟩
    · replace h1 : ¬ (nd < 1) := h1
      refine ⟨fun h2 => ?_, fun h2 => ?_⟩
      · replace h2 : 12 < nd := h2
        have e : splE s nd hs nz = 3 := by unfold splE; rw [if_neg (by omega : ¬ 4096 < s.length), if_pos (by omega)]
        rw [splL, if_neg (by rw [e]; decide), e]
        exact ⟨rfl, rfl, rfl, rfl⟩
      · replace h2 : ¬ (12 < nd) := h2
        refine ⟨fun h3 => ?_, fun h3 => ?_⟩
        · replace h3 : (hs.length : Int) < nd := h3
          have e : splE s nd hs nz = 1 := by unfold splE; rw [if_neg (by omega : ¬ 4096 < s.length), if_neg (by omega : ¬ (nd < 1 ∨ 12 < nd)), if_pos (by omega)]
          rw [splL, if_neg (by rw [e]; decide), e]
          exact ⟨rfl, rfl, rfl, rfl⟩
        · replace h3 : ¬ ((hs.length : Int) < nd) := h3
          refine ⟨0, [(0, .k), (1, .k), (2, .k), (3, .k), (10, .k), (35, .k), (36, .k), (37, .k)], fun nM vs H => ∃ (k : Nat), k ≤ hs.length ∧ (∀ j, j < k → hsB hs j = true) ∧ nM = hs.length - k ∧ vs = [.str s, .int .i64 nd, .sl false (.int .i64) hs, .str nz, .int .i64 (s.length : Int), .sl false (.int .i64) hs, .int .i64 (hs.length : Int), .int .i64 (k : Int)] ∧ H = [], ⟨rfl, hs.length, 0, by omega, fun j h => absurd h (Nat.not_lt_zero j), by omega, rfl, rfl⟩, ?_⟩
          rintro nM vs H ⟨k, hc1_0, hc1_1, rfl, rfl, rfl⟩
          refine ⟨fun h4 => ?_, fun h4 => ?_⟩
          · replace h4 : (k : Int) < (hs.length : Int) := h4
            have hk : k < hs.length := by omega
            refine ⟨⟨by show (0 : Int) ≤ (k : Int); omega, by show (k : Int) < (hs.length : Int); omega⟩, rfl, trivial, fun h5 => ?_, fun h5 => ?_⟩
            · replace h5 : ¬ (¬ (knw (hs.getD k 0))) := h5
              refine ⟨fun h6 => ?_, fun h6 => ?_⟩
              · replace h6 : 0 < (k : Int) := h6
                refine ⟨⟨by show (-9223372036854775808 : Int) ≤ ((k : Int) - 1); omega, by show ((k : Int) - 1) ≤ (9223372036854775807 : Int); omega⟩, ⟨by show (0 : Int) ≤ ((k : Int) - 1); omega, by show ((k : Int) - 1) < (hs.length : Int); omega⟩, fun h7 => ?_, fun h7 => ?_⟩
                · replace h7 : (hs.getD k 0) ≤ (hs.getD (((k : Int) - 1).toNat) 0) := h7
                  have hf : hsOk hs = false := hs_bad (fun g => by rw [show ((k : Int) - 1).toNat = k - 1 by omega] at h7; have := g.2; omega) hk
                  have e : splE s nd hs nz = 1 := by unfold splE; rw [if_neg (by omega : ¬ 4096 < s.length), if_neg (by omega : ¬ (nd < 1 ∨ 12 < nd)), if_neg (by omega : ¬ (hs.length : Int) < nd), if_pos hf]
                  rw [splL, if_neg (by rw [e]; decide), e]
                  exact ⟨rfl, rfl, rfl, rfl⟩
                · replace h7 : ¬ ((hs.getD k 0) ≤ (hs.getD (((k : Int) - 1).toNat) 0)) := h7
                  have hok := hs_yes (l := hs) (Classical.not_not.1 h5) (.inr h7)
                  refine ⟨⟨by show (-9223372036854775808 : Int) ≤ ((k : Int) + 1); omega, by show ((k : Int) + 1) ≤ (9223372036854775807 : Int); omega⟩, ?_⟩
                  exact ⟨rfl, hs.length - (k + 1), by omega, k + 1, by omega, hs_next hc1_1 hok, rfl, rfl, rfl⟩
              · replace h6 : ¬ (0 < (k : Int)) := h6
                have hok := hs_yes (l := hs) (Classical.not_not.1 h5) (.inl (by omega))
                refine ⟨⟨by show (-9223372036854775808 : Int) ≤ ((k : Int) + 1); omega, by show ((k : Int) + 1) ≤ (9223372036854775807 : Int); omega⟩, ?_⟩
                exact ⟨rfl, hs.length - (k + 1), by omega, k + 1, by omega, hs_next hc1_1 hok, rfl, rfl, rfl⟩
            · replace h5 : ¬ (knw (hs.getD k 0)) := h5
              have hf : hsOk hs = false := hs_bad (fun g => h5 g.1) hk
              have e : splE s nd hs nz = 1 := by unfold splE; rw [if_neg (by omega : ¬ 4096 < s.length), if_neg (by omega : ¬ (nd < 1 ∨ 12 < nd)), if_neg (by omega : ¬ (hs.length : Int) < nd), if_pos hf]
              rw [splL, if_neg (by rw [e]; decide), e]
              exact ⟨rfl, rfl, rfl, rfl⟩
          · replace h4 : ¬ ((k : Int) < (hs.length : Int)) := h4
            have hso := hs_all hc1_1 (by omega)
            obtain ⟨hm1, hm2⟩ := mul_bd (a := (s.length : Int)) (b := nd - 1) (A := 4096) (B := 11) (by omega) (by omega) (by omega) (by omega)
            refine ⟨⟨by show (-9223372036854775808 : Int) ≤ (nd - 1); omega, by show (nd - 1) ≤ (9223372036854775807 : Int); omega⟩, ⟨by show (-9223372036854775808 : Int) ≤ ((s.length : Int) * (nd - 1)); omega, by show ((s.length : Int) * (nd - 1)) ≤ (9223372036854775807 : Int); omega⟩, fun h8 => ?_, fun h8 => ?_⟩
            · replace h8 : (nz.length : Int) ≠ ((s.length : Int) * (nd - 1)) := h8
              have e : splE s nd hs nz = 1 := by unfold splE; rw [if_neg (by omega : ¬ 4096 < s.length), if_neg (by omega : ¬ (nd < 1 ∨ 12 < nd)), if_neg (by omega : ¬ (hs.length : Int) < nd), if_neg (by rw [hso]; decide), if_neg h8]
              rw [splL, if_neg (by rw [e]; decide), e]
              exact ⟨rfl, rfl, rfl, rfl⟩
            · replace h8 : ¬ ((nz.length : Int) ≠ ((s.length : Int) * (nd - 1))) := h8
              have hn : nz.length = s.length * (nd - 1).toNat := Int.ofNat_inj.1 (by rw [Int.natCast_mul, Int.toNat_of_nonneg (by omega)]; exact Classical.not_not.1 h8)
              refine ⟨⟨rfl, by show (0 : Int) ≤ (hs.length : Int); omega, by show (hs.length : Int) ≤ (1000000000 : Int); omega⟩, 0, [(0, .k), (1, .k), (3, .k), (10, .k), (13, .o (.cons (.int .i64) (.cons .str .nil))), (69, .k), (70, .k), (71, .k)], fun nM vs H => ∃ (k : Nat), k ≤ hs.length ∧ nM = hs.length - k ∧ vs = [.str s, .int .i64 nd, .str nz, .int .i64 (s.length : Int), .own (.cons (.int .i64) (.cons .str .nil)) 0, .sl false (.int .i64) hs, .int .i64 (hs.length : Int), .int .i64 (k : Int)] ∧ H = [.row true (.cons (.int .i64) (.cons .str .nil)) (outL s nd hs nz k)], ⟨rfl, hs.length, 0, by omega, by omega, rfl, by rw [out_zero]; rfl⟩, ?_⟩
              rintro nM vs H ⟨k, hc2_0, rfl, rfl, rfl⟩
              have hol := out_len s nd hs nz k
              refine ⟨fun h9 => ?_, fun h9 => ?_⟩
              · replace h9 : (k : Int) < (hs.length : Int) := h9
                have hk : k < hs.length := by omega
                obtain ⟨⟨q1, q2⟩, _⟩ := hs_get hso hk
                refine ⟨⟨by show (0 : Int) ≤ (k : Int); omega, by show (k : Int) < (hs.length : Int); omega⟩, ⟨rfl, by show (0 : Int) ≤ (s.length : Int); omega, by show (s.length : Int) ≤ (1000000000 : Int); omega⟩, ⟨by show (-9223372036854775808 : Int) ≤ (nd - 2); omega, by show (nd - 2) ≤ (9223372036854775807 : Int); omega⟩, 1, [(0, .k), (1, .k), (3, .k), (10, .k), (13, .k), (14, .k), (15, .k), (16, .k), (17, .k), (69, .k), (70, .k), (71, .k)], fun nM vs H => ∃ (j : Nat), j ≤ (nd - 1).toNat ∧ nM = j + 1 ∧ vs = [.str s, .int .i64 nd, .str nz, .int .i64 (s.length : Int), .own (.cons (.int .i64) (.cons .str .nil)) 0, .int .i64 (k : Int), .int .i64 (hs.getD k 0), .str (accL nz s.length (nd - 1).toNat (pt (hs.getD k 0)) j), .int .i64 ((j : Int) - 1), .sl false (.int .i64) hs, .int .i64 (hs.length : Int), .int .i64 (k : Int)] ∧ H = [.row true (.cons (.int .i64) (.cons .str .nil)) (outL s nd hs nz k)], ⟨rfl, (nd - 1).toNat + 1, (nd - 1).toNat, by omega, by omega, by rw [acc_top, show (((nd - 1).toNat : Nat) : Int) - 1 = nd - 2 by omega]; rfl, rfl⟩, ?_⟩
                rintro nM vs H ⟨j, hc3_0, rfl, rfl, rfl⟩
                refine ⟨fun h10 => ?_, fun h10 => ?_⟩
                · replace h10 : 0 ≤ ((j : Int) - 1) := h10
                  obtain ⟨i, hj⟩ : ∃ i, j = i + 1 := ⟨j - 1, by omega⟩
                  have e1 : (((j : Int) - 1) * (s.length : Int)) = ((i * s.length : Nat) : Int) := by rw [show (j : Int) - 1 = (i : Int) by omega, Int.natCast_mul]
                  have e2 : ((((j : Int) - 1) + 1) * (s.length : Int)) = ((i * s.length : Nat) : Int) + (s.length : Int) := by rw [show ((j : Int) - 1) + 1 = (i : Int) + 1 by omega, Int.add_mul, Int.one_mul, Int.natCast_mul]
                  have e3 : i * s.length + s.length ≤ nz.length := by (have := Nat.mul_le_mul_left s.length (show i + 1 ≤ (nd - 1).toNat by omega); rw [← hn, Nat.mul_succ, Nat.mul_comm] at this; exact this)
                  have e4 : i * s.length ≤ 11 * 4096 := Nat.mul_le_mul (by omega) (by omega)
                  have ey : ((((j : Int) - 1) + 1) * (s.length : Int)).toNat - (((j : Int) - 1) * (s.length : Int)).toNat = s.length := by omega
                  have ex : (((j : Int) - 1) * (s.length : Int)).toNat = i * s.length := by omega
                  have hst : scaleB (pt (hs.getD k 0)) (sumB (accL nz s.length (nd - 1).toNat (pt (hs.getD k 0)) j) ((nz.drop ((((j : Int) - 1) * (s.length : Int)).toNat)).take (((((j : Int) - 1) + 1) * (s.length : Int)).toNat - (((j : Int) - 1) * (s.length : Int)).toNat))) = accL nz s.length (nd - 1).toNat (pt (hs.getD k 0)) i := by rw [ey, ex, hj]; exact acc_step (by omega) hn rfl
                  have hal := acc_len nz s.length (nd - 1).toNat (pt (hs.getD k 0)) j
                  have hcl : ((nz.drop ((((j : Int) - 1) * (s.length : Int)).toNat)).take (((((j : Int) - 1) + 1) * (s.length : Int)).toNat - (((j : Int) - 1) * (s.length : Int)).toNat)).length = s.length := by rw [ey, List.length_take, List.length_drop]; omega
                  refine ⟨by kernel_rfl, rfl, ⟨by show 0 ≤ (hs.getD k 0); first | omega | assumption, by show (hs.getD k 0) < 1000000; first | omega | assumption⟩, ⟨by show (-9223372036854775808 : Int) ≤ (((j : Int) - 1) * (s.length : Int)); omega, by show (((j : Int) - 1) * (s.length : Int)) ≤ (9223372036854775807 : Int); omega⟩, ⟨by show (-9223372036854775808 : Int) ≤ (((j : Int) - 1) + 1); omega, by show (((j : Int) - 1) + 1) ≤ (9223372036854775807 : Int); omega⟩, ⟨by show (-9223372036854775808 : Int) ≤ ((((j : Int) - 1) + 1) * (s.length : Int)); omega, by show ((((j : Int) - 1) + 1) * (s.length : Int)) ≤ (9223372036854775807 : Int); omega⟩, ⟨by omega, by omega, by omega⟩, ⟨by show (accL nz s.length (nd - 1).toNat (pt (hs.getD k 0)) j).length ≤ 1000000000; first | omega | assumption, by show ((nz.drop ((((j : Int) - 1) * (s.length : Int)).toNat)).take (((((j : Int) - 1) + 1) * (s.length : Int)).toNat - (((j : Int) - 1) * (s.length : Int)).toNat)).length ≤ 1000000000; first | omega | assumption | (simp only [List.length_cons, List.length_nil, List.length_append, List.length_take, List.length_drop, List.length_set, List.length_replicate]; omega)⟩, by show (sumB _ _).length ≤ _; rw [sum_len, hcl, hal]; omega, ⟨by show (-9223372036854775808 : Int) ≤ (((j : Int) - 1) - 1); omega, by show (((j : Int) - 1) - 1) ≤ (9223372036854775807 : Int); omega⟩, ?_⟩
                  exact ⟨rfl, i + 1, by omega, i, by omega, rfl, by rw [hst, show (j : Int) - 1 - 1 = (i : Int) - 1 by omega]; rfl, rfl⟩
                · replace h10 : ¬ (0 ≤ ((j : Int) - 1)) := h10
                  have hfin : sumB (accL nz s.length (nd - 1).toNat (pt (hs.getD k 0)) j) s = shB s nz (nd - 1).toNat (pt (hs.getD k 0)) := by rw [show j = 0 by omega]; exact acc_end
                  have hal := acc_len nz s.length (nd - 1).toNat (pt (hs.getD k 0)) j
                  refine ⟨⟨by show (accL nz s.length (nd - 1).toNat (pt (hs.getD k 0)) j).length ≤ 1000000000; first | omega | assumption, by show s.length ≤ 1000000000; first | omega | assumption⟩, ⟨by show (0 : Int) ≤ (k : Int); omega, by show (k : Int) < ((outL s nd hs nz k).length : Int); omega⟩, rfl, ⟨fun h => (by first | rfl | cases h), rfl, rfl⟩, ⟨by show (-9223372036854775808 : Int) ≤ ((k : Int) + 1); omega, by show ((k : Int) + 1) ≤ (9223372036854775807 : Int); omega⟩, ?_⟩
                  exact ⟨rfl, hs.length - (k + 1), by omega, k + 1, by omega, rfl, rfl, by rw [← out_set (x := (hs.getD k 0, sumB (accL nz s.length (nd - 1).toNat (pt (hs.getD k 0)) j) s, ())) hk (by rw [hfin]; rfl)]; rfl⟩
              · replace h9 : ¬ ((k : Int) < (hs.length : Int)) := h9
                have e : splE s nd hs nz = 0 := by unfold splE; rw [if_neg (by omega : ¬ 4096 < s.length), if_neg (by omega : ¬ (nd < 1 ∨ 12 < nd)), if_neg (by omega : ¬ (hs.length : Int) < nd), if_neg (by rw [hso]; decide), if_pos (Classical.not_not.1 h8)]
                rw [splL, if_pos e, e, ← out_all (by omega : hs.length ≤ k)]
                exact ⟨rfl, rfl, rfl, rfl⟩
    · replace h1 : nd < 1 := h1
      have e : splE s nd hs nz = 3 := by unfold splE; rw [if_neg (by omega : ¬ 4096 < s.length), if_pos (by omega)]
      rw [splL, if_neg (by rw [e]; decide), e]
      exact ⟨rfl, rfl, rfl, rfl⟩
def CZSpl : List (Nat × Con) := (18, pureC [.v .str, .v (.int .i64), .v (.sl (.int .i64)), .v .str] sZSpl) :: CZChk
theorem kZSpl : Known Tryd.prog (En CZSpl tys G6 []) := kZChk.add Tryd.func18 Tryd.call18 [.o (.cons (.int .i64) (.cons .str .nil)), .k] fun ds p v bs h hp => by
  unfold sZSpl at h
  split at h <;> simp only [Option.some.injEq, Prod.mk.injEq, reduceCtorEq] at h
  obtain ⟨rfl, rfl, rfl⟩ := h
  exact bZSpl _ _ _ _ hp.1 hp.2.1 hp.2.2
end Go.Proofs.YtogipicegdbhdaaDoor.S40

namespace Go.Proofs.YtogipicegdbhdaaDoor.S40
open Go Go.Proofs.YtogipicegdbhdaaDoor.Vc Go.Proofs
set_option maxRecDepth 100000
set_option linter.unusedVariables false

def sZCo1 : List V → Option (Prop × V × List Blk)
  | [.int .i64 k, .rp false (.sl (.cons (.int .i64) (.cons .str .nil))) l 0] => some (0 ≤ k ∧ l.length ≤ 1048576 ∧ (∀ x ∈ l, k < (x.2.1.length : Int)), .own .u8 0, [.row true .u8 (ysL l k.toNat)])
  | _ => none
set_option maxHeartbeats 1000000 in
theorem bZCo1 (k : Int) (l : List (Int × (List UInt8 × Unit))) (hp0 : 0 ≤ k) (hp1 : l.length ≤ 1048576) (hp2 : (∀ x ∈ l, k < (x.2.1.length : Int))) : bodyP (En CZSpl tys G6 []) Tryd.f97 [.o .u8] [.int .i64 k, .rp false (.sl (.cons (.int .i64) (.cons .str .nil))) l 0] (.own .u8 0) [.row true .u8 (ysL l k.toNat)] := by
  refine ⟨⟨rfl, by show (0 : Int) ≤ (l.length : Int); omega, by show (l.length : Int) ≤ (1000000000 : Int); omega⟩, 0, [(0, .k), (4, .o .u8), (10, .k), (11, .k), (12, .k)], fun nM vs H => ∃ (i : Nat), i ≤ l.length ∧ nM = l.length - i ∧ vs = [.int .i64 k, .own .u8 0, .sl false (.cons (.int .i64) (.cons .str .nil)) l, .int .i64 (l.length : Int), .int .i64 (i : Int)] ∧ H = [.row true .u8 (fillF (yF l k.toNat) l.length i)], ⟨rfl, l.length, 0, by omega, by omega, rfl, by rw [fill_zero]; rfl⟩, ?_⟩
  rintro nM vs H ⟨i, hc1_0, rfl, rfl, rfl⟩
  have hfl := fill_len (yF l k.toNat) l.length i
  refine ⟨fun h0 => ?_, fun h0 => ?_⟩
  · replace h0 : (i : Int) < (l.length : Int) := h0
    have hi : i < l.length := by omega
    have hkl := hp2 _ (getD_mem (0, [], ()) l i hi)
    refine ⟨⟨by show (0 : Int) ≤ (i : Int); omega, by show (i : Int) < (l.length : Int); omega⟩, ⟨rfl, rfl, rfl, Nat.le_of_ble_eq_true rfl⟩, ⟨by show (0 : Int) ≤ k; omega, by show k < ((((l.getD i (0, ([], ()))).2).1).length : Int); omega⟩, ⟨by show (0 : Int) ≤ (i : Int); omega, by show (i : Int) < ((fillF (yF l k.toNat) l.length i).length : Int); omega⟩, ⟨rfl, rfl⟩, ⟨by show (-9223372036854775808 : Int) ≤ ((i : Int) + 1); omega, by show ((i : Int) + 1) ≤ (9223372036854775807 : Int); omega⟩, ?_⟩
    exact ⟨rfl, l.length - (i + 1), by omega, i + 1, by omega, rfl, rfl, by rw [← fill_set (yF l k.toNat) hi]; rfl⟩
  · replace h0 : ¬ ((i : Int) < (l.length : Int)) := h0
    rw [show i = l.length by omega, ys_fill]
    exact ⟨rfl, rfl, rfl, rfl⟩
def CZCo1 : List (Nat × Con) := (97, pureC [.v (.int .i64), .ref (.sl (.cons (.int .i64) (.cons .str .nil)))] sZCo1) :: CZSpl
theorem kZCo1 : Known Tryd.prog (En CZCo1 tys G6 []) := kZSpl.add Tryd.func97 Tryd.call97 [.o .u8] fun ds p v bs h hp => by
  unfold sZCo1 at h
  split at h <;> simp only [Option.some.injEq, Prod.mk.injEq, reduceCtorEq] at h
  obtain ⟨rfl, rfl, rfl⟩ := h
  exact bZCo1 _ _ hp.1 hp.2.1 hp.2.2
def sZPts : List V → Option (Prop × V × List Blk)
  | [.sl false (.cons (.int .i64) (.cons .str .nil)) l] => some (l.length ≤ 1048576 ∧ (∀ x ∈ l, knw x.1), .own .u8 0, [.row true .u8 (xsL l)])
  | _ => none
set_option maxHeartbeats 1000000 in
theorem bZPts (l : List (Int × (List UInt8 × Unit))) (hp0 : l.length ≤ 1048576) (hp1 : (∀ x ∈ l, knw x.1)) : bodyP (En CZCo1 tys G6 []) Tryd.f79 [.o .u8] [.sl false (.cons (.int .i64) (.cons .str .nil)) l] (.own .u8 0) [.row true .u8 (xsL l)] := by
  refine ⟨⟨rfl, by show (0 : Int) ≤ (l.length : Int); omega, by show (l.length : Int) ≤ (1000000000 : Int); omega⟩, 0, [(3, .o .u8), (9, .k), (10, .k), (11, .k)], fun nM vs H => ∃ (i : Nat), i ≤ l.length ∧ nM = l.length - i ∧ vs = [.own .u8 0, .sl false (.cons (.int .i64) (.cons .str .nil)) l, .int .i64 (l.length : Int), .int .i64 (i : Int)] ∧ H = [.row true .u8 (fillF (xF l) l.length i)], ⟨rfl, l.length, 0, by omega, by omega, rfl, by rw [fill_zero]; rfl⟩, ?_⟩
  rintro nM vs H ⟨i, hc1_0, rfl, rfl, rfl⟩
  have hfl := fill_len (xF l) l.length i
  refine ⟨fun h0 => ?_, fun h0 => ?_⟩
  · replace h0 : (i : Int) < (l.length : Int) := h0
    have hi : i < l.length := by omega
    obtain ⟨q1, q2⟩ := hp1 _ (getD_mem (0, [], ()) l i hi)
    refine ⟨⟨by show (0 : Int) ≤ (i : Int); omega, by show (i : Int) < (l.length : Int); omega⟩, ⟨rfl, rfl, rfl, Nat.le_of_ble_eq_true rfl⟩, rfl, ⟨by show 0 ≤ ((l.getD i (0, ([], ()))).1); first | omega | assumption | (simp only [List.length_cons, List.length_nil, List.length_append, List.length_take, List.length_drop, List.length_set, List.length_replicate]; omega), by show ((l.getD i (0, ([], ()))).1) < 1000000; first | omega | assumption | (simp only [List.length_cons, List.length_nil, List.length_append, List.length_take, List.length_drop, List.length_set, List.length_replicate]; omega)⟩, ⟨by show (0 : Int) ≤ (i : Int); omega, by show (i : Int) < ((fillF (xF l) l.length i).length : Int); omega⟩, ⟨rfl, rfl⟩, ⟨by show (-9223372036854775808 : Int) ≤ ((i : Int) + 1); omega, by show ((i : Int) + 1) ≤ (9223372036854775807 : Int); omega⟩, ?_⟩
    exact ⟨rfl, l.length - (i + 1), by omega, i + 1, by omega, rfl, rfl, by rw [← fill_set (xF l) hi]; rfl⟩
  · replace h0 : ¬ ((i : Int) < (l.length : Int)) := h0
    rw [show i = l.length by omega, xs_fill]
    exact ⟨rfl, rfl, rfl, rfl⟩
def CZPts : List (Nat × Con) := (79, pureC [.v (.sl (.cons (.int .i64) (.cons .str .nil)))] sZPts) :: CZCo1
theorem kZPts : Known Tryd.prog (En CZPts tys G6 []) := kZCo1.add Tryd.func79 Tryd.call79 [.o .u8] fun ds p v bs h hp => by
  unfold sZPts at h
  split at h <;> simp only [Option.some.injEq, Prod.mk.injEq, reduceCtorEq] at h
  obtain ⟨rfl, rfl, rfl⟩ := h
  exact bZPts _ hp.1 hp.2
def sZCo2 : List V → Option (Prop × Nat × (Nat → List V))
  | [.rp false (.sl (.cons (.int .i64) (.cons .str .nil))) l 0, .rb (.fn 97 [.rp false (.sl (.cons (.int .i64) (.cons .str .nil))) l2 0])] => some (1 ≤ l.length ∧ l.length ≤ 1048576 ∧ lnS l ≤ 1048576 ∧ (∀ x ∈ l, x.2.1.length = lnS l) ∧ l2 = l, (lnS l, fun n => [.int .i64 ((n : Nat) : Int), .sl false .u8 (ysL l n)]))
  | _ => none
set_option maxHeartbeats 1000000 in
theorem bZCo2 (l : List (Int × (List UInt8 × Unit))) (l2 : List (Int × (List UInt8 × Unit))) (hp0 : 1 ≤ l.length) (hp1 : l.length ≤ 1048576) (hp2 : lnS l ≤ 1048576) (hp3 : (∀ x ∈ l, x.2.1.length = lnS l)) (hp4 : l2 = l) : bodyS (En CZPts tys G6 []).inR Tryd.f98 [.rp false (.sl (.cons (.int .i64) (.cons .str .nil))) l 0, .rb (.fn 97 [.rp false (.sl (.cons (.int .i64) (.cons .str .nil))) l2 0])] [.v (.int .i64), .v (.sl .u8)] (lnS l, fun n => [.int .i64 ((n : Nat) : Int), .sl false .u8 (ysL l n)]) := by
  have hlS : (l.getD 0 (0, [], ())).2.1.length = lnS l := rfl
  refine ⟨rfl, ⟨by show (0 : Int) ≤ 0; omega, by show 0 < (l.length : Int); omega⟩, 0, [(0, .k), (2, .k), (9, .k), (10, .k)], fun nM vs H => ∃ (k : Nat), k ≤ lnS l ∧ nM = lnS l - k ∧ vs = [.yld (some k), .rb (.fn 97 [.rp false (.sl (.cons (.int .i64) (.cons .str .nil))) l2 0]), .int .i64 (((((l.getD 0 (0, ([], ()))).2).1).length : Nat) : Int), .int .i64 (k : Int)] ∧ H = [], ⟨rfl, lnS l, 0, by omega, by omega, rfl, rfl⟩, ?_⟩
  rintro nM vs H ⟨k, hc1_0, rfl, rfl, rfl⟩
  refine ⟨fun h0 => ?_, fun h0 => ?_⟩
  · replace h0 : (k : Int) < (((((l.getD 0 (0, ([], ()))).2).1).length : Nat) : Int) := h0
    refine ⟨rfl, ⟨by show 0 ≤ (k : Int); first | omega | assumption, by rw [hp4]; omega, by rw [hp4]; exact fun x hx => by rw [hp3 x hx]; omega⟩, rfl, ⟨(by omega), by rw [hp4]; rfl⟩, ?_, ?_⟩
    · refine ⟨⟨by show (-9223372036854775808 : Int) ≤ ((k : Int) + 1); omega, by show ((k : Int) + 1) ≤ (9223372036854775807 : Int); omega⟩, ?_⟩
      exact ⟨rfl, lnS l - (k + 1), by omega, k + 1, by omega, rfl, rfl, rfl⟩
    · trivial
  · replace h0 : ¬ ((k : Int) < (((((l.getD 0 (0, ([], ()))).2).1).length : Nat) : Int)) := h0
    show (k : Nat) = lnS l
    omega
def QZCo2 : List (Nat × SeqC) := (98, [.ref (.sl (.cons (.int .i64) (.cons .str .nil))), .rf [(97, [.ref (.sl (.cons (.int .i64) (.cons .str .nil)))])]], sZCo2) :: []
def CZCo2 : List (Nat × Con) := CZPts
theorem kZCo2 : Known Tryd.prog (En CZCo2 tys G6 QZCo2) := kZPts.addSeq Tryd.func98 Tryd.call98 [.v (.int .i64), .v (.sl .u8)] fun ds p L h hp => by
  unfold sZCo2 at h
  split at h <;> simp only [Option.some.injEq, Prod.mk.injEq, reduceCtorEq] at h
  obtain ⟨rfl, rfl⟩ := h
  exact bZCo2 _ _ hp.1 hp.2.1 hp.2.2.1 hp.2.2.2.1 hp.2.2.2.2
end Go.Proofs.YtogipicegdbhdaaDoor.S40

namespace Go.Proofs.YtogipicegdbhdaaDoor.S40
open Go Go.Proofs.YtogipicegdbhdaaDoor.Vc Go.Proofs
set_option maxRecDepth 100000
set_option linter.unusedVariables false

def sZCol : List V → Option (Prop × V × List Blk)
  | [.sl false (.cons (.int .i64) (.cons .str .nil)) l] => some (True, .fn 98 [.ptr 0 1 0 0, .ptr 1 1 0 0], [.cells [.sl false (.cons (.int .i64) (.cons .str .nil)) (l)], .cells [.fn 97 [.ptr 0 1 0 0]]])
  | _ => none
set_option maxHeartbeats 1000000 in
theorem bZCol (l : List (Int × (List UInt8 × Unit)))  : bodyI (En CZCo2 tys G6 QZCo2) Tryd.f77 [.c []] [.sl false (.cons (.int .i64) (.cons .str .nil)) l] (.fn 98 [.ptr 0 1 0 0, .ptr 1 1 0 0]) [.cells [.sl false (.cons (.int .i64) (.cons .str .nil)) (l)], .cells [.fn 97 [.ptr 0 1 0 0]]] := by
  refine ⟨⟨rfl, rfl, rfl⟩, ?_⟩
  exact ⟨rfl, rfl, rfl, rfl⟩
def CZCol : List (Nat × Con) := (77, immC [.v (.sl (.cons (.int .i64) (.cons .str .nil)))] sZCol) :: CZCo2
theorem kZCol : Known Tryd.prog (En CZCol tys G6 QZCo2) := kZCo2.addI Tryd.func77 Tryd.call77 [.c []] fun ds p v bs h hp => by
  unfold sZCol at h
  split at h <;> simp only [Option.some.injEq, Prod.mk.injEq, reduceCtorEq] at h
  obtain ⟨rfl, rfl, rfl⟩ := h
  exact bZCol _
def sZjoi : List V → Option (Prop × V × List Blk)
  | [.sl false (.cons (.int .i64) (.cons .str .nil)) l, .int .i64 nd, .u8 x] => some (chkE l = 0 ∧ 1 ≤ nd ∧ nd ≤ 12, .tup [.str (jnS l nd x), .int .i64 (jnE l nd)], [])
  | _ => none
set_option maxHeartbeats 2000000 in
theorem bZjoi (l : List (Int × (List UInt8 × Unit))) (nd : Int) (x : UInt8) (hp0 : chkE l = 0) (hp1 : 1 ≤ nd) (hp2 : nd ≤ 12) : bodyP (En CZCol tys G6 QZCo2) Tryd.f42 [.k, .k] [.sl false (.cons (.int .i64) (.cons .str .nil)) l, .int .i64 nd, .u8 x] (.tup [.str (jnS l nd x), .int .i64 (jnE l nd)]) [] := by
  have hc := chk0 hp0
  have hcl := hc.len
  have hcm := hc.max
  have hcb := hc.bytes
  have hch := hc.house
  refine ⟨fun h0 => ?_, fun h0 => ?_⟩
  · replace h0 : (l.length : Int) < nd := h0
    refine ⟨⟨rfl, rfl, rfl⟩, ⟨rfl, rfl, rfl⟩, ?_⟩
    have e : jnE l nd = 29 := jn29 h0
    rw [jnSn (by rw [e]; decide), e]
    exact ⟨rfl, rfl, rfl, rfl⟩
  · replace h0 : ¬ ((l.length : Int) < nd) := h0
    refine ⟨trivial, rfl, rfl, ⟨⟨by show 1 ≤ l.length; first | omega | assumption, by show l.length ≤ 1048576; first | omega | assumption, by show lnS l ≤ 1048576; first | omega | assumption, hcb, rfl⟩, fun _ _ => rfl⟩, 9, [(3, .k), (4, .k), (5, .k), (6, .k), (7, .k), (8, .c [(0, .u8)])], fun n vs H => n ≤ lnS l ∧ (∀ i, i < n → (tpL (xsL l) (ysL l i) (nd - 1)).2 = 0) ∧ vs = [.ptr 0 1 0 0, .ptr 1 1 0 0, .ptr 2 1 0 0, .ptr 3 1 0 0, .ptr 4 1 0 0, .ptr 5 1 0 0] ∧ H = [.cells [.sl false (.cons (.int .i64) (.cons .str .nil)) l], .cells [.int .i64 nd], .cells [.u8 x], .cells [.str ([])], .cells [.int .i64 0], .cells [.own .u8 8], .dead, .dead, .row true .u8 (jnK l nd x n)], ⟨rfl, by omega, fun i h => absurd h (Nat.not_lt_zero i), rfl, rfl⟩, ?_, ?_⟩
    · rintro n vs H ⟨hc1_0, hc1_1, rfl, rfl⟩ hn1
      replace hn1 : n < lnS l := hn1
      have hjl := jnK_len l nd x n
      refine ⟨by kernel_rfl, ⟨by show l.length ≤ 1048576; first | omega | assumption, by assumption⟩, ⟨by show (-9223372036854775808 : Int) ≤ (nd - 1); omega, by show (nd - 1) ≤ (9223372036854775807 : Int); omega⟩, rfl, ⟨by show (xsL l).length ≤ 10000; rw [xsL_len]; omega, by show (ysL l n).length ≤ 10000; rw [ysL_len]; omega⟩, fun h1 => ?_, fun h1 => ?_⟩
      · replace h1 : ((tpL (xsL l) (ysL l n) (nd - 1)).2) ≠ 0 := h1
        refine ⟨⟨rfl, rfl, rfl⟩, ⟨rfl, rfl, rfl⟩, rfl, rfl, ?_⟩
        have e : jnE l nd = 14 := jn14 h0 hn1 h1
        rw [jnSn (by rw [e]; decide), e]
        exact ⟨rfl, rfl, rfl, rfl⟩
      · replace h1 : ¬ (((tpL (xsL l) (ysL l n) (nd - 1)).2) ≠ 0) := h1
        refine ⟨by kernel_rfl, by show ((tpL (xsL l) (ysL l n) (nd - 1)).1).length ≤ 1000000; have := tp_len (xsL l) (ysL l n) (nd - 1); rw [xsL_len] at this; omega, ⟨rfl, rfl⟩, by show (jnK l nd x n).length + ([horner x ((tpL (xsL l) (ysL l n) (nd - 1)).1)] : List UInt8).length ≤ 1000000000; simp only [List.length_cons, List.length_nil]; omega, ⟨rfl, rfl, rfl⟩, ?_⟩
        exact ⟨rfl, rfl, by omega, up_next (P := fun i => (tpL (xsL l) (ysL l i) (nd - 1)).2 = 0) hc1_1 (Classical.not_not.1 h1), rfl, by rw [jnK_snoc]; rfl⟩
    · rintro vs H ⟨hc1_0, hc1_1, rfl, rfl⟩
      refine ⟨⟨rfl, rfl, rfl⟩, ⟨rfl, rfl, rfl⟩, ?_⟩
      have e := jn0 h0 hc1_1
      rw [jnS0 e, e]
      exact ⟨rfl, rfl, rfl, rfl⟩
def CZjoi : List (Nat × Con) := (42, pureC [.v (.sl (.cons (.int .i64) (.cons .str .nil))), .v (.int .i64), .v .u8] sZjoi) :: CZCol
theorem kZjoi : Known Tryd.prog (En CZjoi tys G6 QZCo2) := kZCol.add Tryd.func42 Tryd.call42 [.k, .k] fun ds p v bs h hp => by
  unfold sZjoi at h
  split at h <;> simp only [Option.some.injEq, Prod.mk.injEq, reduceCtorEq] at h
  obtain ⟨rfl, rfl, rfl⟩ := h
  exact bZjoi _ _ _ hp.1 hp.2.1 hp.2.2
end Go.Proofs.YtogipicegdbhdaaDoor.S40

namespace Go.Proofs.YtogipicegdbhdaaDoor.S40
open Go Go.Proofs.YtogipicegdbhdaaDoor.Vc Go.Proofs
set_option maxRecDepth 100000
set_option linter.unusedVariables false

def sZrdy : List V → Option (Prop × V × List Blk)
  | [.sl false (.cons (.int .i64) (.cons .str .nil)) l, .int .i64 nd] => some (l.length ≤ 1048576, .int .i64 (rdE l nd), [])
  | _ => none
set_option maxHeartbeats 1000000 in
theorem bZrdy (l : List (Int × (List UInt8 × Unit))) (nd : Int) (hp0 : l.length ≤ 1048576) : bodyP (En CZjoi tys G6 QZCo2) Tryd.f41 [.k] [.sl false (.cons (.int .i64) (.cons .str .nil)) l, .int .i64 nd] (.int .i64 (rdE l nd)) [] := by
  refine ⟨by show l.length ≤ 1048576; first | omega | assumption, fun h0 => ?_, fun h0 => ?_⟩
  · replace h0 : (chkE l) ≠ 0 := h0
    rw [show rdE l nd = chkE l from if_neg h0]
    exact ⟨rfl, rfl, rfl, rfl⟩
  · replace h0 : ¬ ((chkE l) ≠ 0) := h0
    refine ⟨fun h1 => ?_, fun h1 => ?_⟩
    · replace h1 : ¬ (nd < 1) := h1
      refine ⟨fun h2 => ?_, fun h2 => ?_⟩
      · replace h2 : 12 < nd := h2
        rw [show rdE l nd = 3 by unfold rdE; rw [if_pos (Classical.not_not.1 h0), if_pos (by omega)]]
        exact ⟨rfl, rfl, rfl, rfl⟩
      · replace h2 : ¬ (12 < nd) := h2
        rw [show rdE l nd = 0 by unfold rdE; rw [if_pos (Classical.not_not.1 h0), if_neg (by omega)]]
        exact ⟨rfl, rfl, rfl, rfl⟩
    · replace h1 : nd < 1 := h1
      rw [show rdE l nd = 3 by unfold rdE; rw [if_pos (Classical.not_not.1 h0), if_pos (by omega)]]
      exact ⟨rfl, rfl, rfl, rfl⟩
def CZrdy : List (Nat × Con) := (41, pureC [.v (.sl (.cons (.int .i64) (.cons .str .nil))), .v (.int .i64)] sZrdy) :: CZjoi
theorem kZrdy : Known Tryd.prog (En CZrdy tys G6 QZCo2) := kZjoi.add Tryd.func41 Tryd.call41 [.k] fun ds p v bs h hp => by
  unfold sZrdy at h
  split at h <;> simp only [Option.some.injEq, Prod.mk.injEq, reduceCtorEq] at h
  obtain ⟨rfl, rfl, rfl⟩ := h
  exact bZrdy _ _ hp
def sZJoi : List V → Option (Prop × V × List Blk)
  | [.sl false (.cons (.int .i64) (.cons .str .nil)) l, .int .i64 nd] => some (l.length ≤ 1048576, .tup [.str (joS l nd 0), .int .i64 (joE l nd)], [])
  | _ => none
set_option maxHeartbeats 1000000 in
theorem bZJoi (l : List (Int × (List UInt8 × Unit))) (nd : Int) (hp0 : l.length ≤ 1048576) : bodyP (En CZrdy tys G6 QZCo2) Tryd.f15 [.k, .k] [.sl false (.cons (.int .i64) (.cons .str .nil)) l, .int .i64 nd] (.tup [.str (joS l nd 0), .int .i64 (joE l nd)]) [] := by
  refine ⟨rfl, by show l.length ≤ 1048576; first | omega | assumption, fun h0 => ?_, fun h0 => ?_⟩
  · replace h0 : (rdE l nd) ≠ 0 := h0
    rw [show joE l nd = rdE l nd from if_neg h0, show joS l nd 0 = [] from if_neg h0]
    exact ⟨rfl, rfl, rfl, rfl⟩
  · replace h0 : ¬ ((rdE l nd) ≠ 0) := h0
    have r := Classical.not_not.1 h0
    obtain ⟨r1, r2, r3⟩ := rd0 r
    have hrl := (chk0 r1).len
    refine ⟨rfl, ⟨by show chkE l = 0; first | omega | assumption, by show 1 ≤ nd; first | omega | assumption, by show nd ≤ 12; first | omega | assumption⟩, ?_⟩
    rw [show joE l nd = jnE l nd from if_pos r, show joS l nd 0 = jnS l nd 0 from if_pos r]
    exact ⟨rfl, rfl, rfl, rfl⟩
def CZJoi : List (Nat × Con) := (15, pureC [.v (.sl (.cons (.int .i64) (.cons .str .nil))), .v (.int .i64)] sZJoi) :: CZrdy
theorem kZJoi : Known Tryd.prog (En CZJoi tys G6 QZCo2) := kZrdy.add Tryd.func15 Tryd.call15 [.k, .k] fun ds p v bs h hp => by
  unfold sZJoi at h
  split at h <;> simp only [Option.some.injEq, Prod.mk.injEq, reduceCtorEq] at h
  obtain ⟨rfl, rfl, rfl⟩ := h
  exact bZJoi _ _ hp
def sZFit : List V → Option (Prop × V × List Blk)
  | [.sl false (.cons (.int .i64) (.cons .str .nil)) l, .int .i64 nd, .str s] => some (l.length ≤ 1048576 ∧ s.length ≤ 1048576, .tup [.int .i64 (ftN l nd s), .b (ftP l nd s)], [])
  | _ => none
set_option maxHeartbeats 1000000 in
theorem bZFit (l : List (Int × (List UInt8 × Unit))) (nd : Int) (s : List UInt8) (hp0 : l.length ≤ 1048576) (hp1 : s.length ≤ 1048576) : bodyP (En CZJoi tys G6 QZCo2) Tryd.f14 [.k, .k] [.sl false (.cons (.int .i64) (.cons .str .nil)) l, .int .i64 nd, .str s] (.tup [.int .i64 (ftN l nd s), .b (ftP l nd s)]) [] := by
  refine ⟨rfl, by show l.length ≤ 1048576; first | omega | assumption, fun h0 => ?_, fun h0 => ?_⟩
  · replace h0 : ¬ ((rdE l nd) ≠ 0) := h0
    have r := Classical.not_not.1 h0
    obtain ⟨r1, r2, r3⟩ := rd0 r
    have hrl := (chk0 r1).len
    refine ⟨fun h1 => ?_, fun h1 => ?_⟩
    · replace h1 : ¬ (4096 < (s.length : Int)) := h1
      refine ⟨fun h2 => ?_, fun h2 => ?_⟩
      · replace h2 : 0 < (l.length : Int) := h2
        refine ⟨⟨by show (0 : Int) ≤ 0; omega, by show 0 < (l.length : Int); omega⟩, fun h3 => ?_, fun h3 => ?_⟩
        · replace h3 : (((((l.getD 0 (0, ([], ()))).2).1).length : Nat) : Int) ≠ (s.length : Int) := h3
          have e : ftN l nd s = 0 := if_neg (fun g => by rcases g.2.2.1 with q | q; (omega); (exact h3 (by show (((l.getD 0 _).2.1.length : Nat) : Int) = _; unfold lnS at q; omega)))
          have e2 : ftP l nd s = (false = true) := propext ⟨fun g => False.elim (by rcases g.2.2.1 with q | q; (omega); (exact h3 (by show (((l.getD 0 _).2.1.length : Nat) : Int) = _; unfold lnS at q; omega))), fun g => Bool.noConfusion g⟩
          rw [e, e2]
          exact ⟨rfl, rfl, rfl, rfl⟩
        · replace h3 : ¬ ((((((l.getD 0 (0, ([], ()))).2).1).length : Nat) : Int) ≠ (s.length : Int)) := h3
          refine ⟨⟨by show (-9223372036854775808 : Int) ≤ (nd - 1); omega, by show (nd - 1) ≤ (9223372036854775807 : Int); omega⟩, ⟨by show (-9223372036854775808 : Int) ≤ ((nd - 1) - (l.length : Int)); omega, by show ((nd - 1) - (l.length : Int)) ≤ (9223372036854775807 : Int); omega⟩, fun h4 => ?_, fun h4 => ?_⟩
          · replace h4 : 0 ≤ ((nd - 1) - (l.length : Int)) := h4
            obtain ⟨b1, b2⟩ := mul_bd (a := (nd - 1) - (l.length : Int)) (b := (s.length : Int)) (A := 12) (B := 4096) (by omega) (by omega) (by omega) (by omega)
            refine ⟨⟨by show (-9223372036854775808 : Int) ≤ (((nd - 1) - (l.length : Int)) * (s.length : Int)); omega, by show (((nd - 1) - (l.length : Int)) * (s.length : Int)) ≤ (9223372036854775807 : Int); omega⟩, ?_⟩
            have e : ftN l nd s = (nd - 1 - (l.length : Int)) * (s.length : Int) := if_pos ⟨r, by omega, .inr (by show (l.getD 0 _).2.1.length = _; omega), by omega⟩
            have e2 : ftP l nd s = (true = true) := propext ⟨fun _ => rfl, fun _ => ⟨r, by omega, .inr (by show (l.getD 0 _).2.1.length = _; omega), .inl (by omega)⟩⟩
            rw [e, e2]
            exact ⟨rfl, rfl, rfl, rfl⟩
          · replace h4 : ¬ (0 ≤ ((nd - 1) - (l.length : Int))) := h4
            refine ⟨rfl, ⟨by show chkE l = 0; first | omega | assumption, by show 1 ≤ nd; first | omega | assumption, by show nd ≤ 12; first | omega | assumption⟩, fun h5 => ?_, fun h5 => ?_⟩
            · replace h5 : (jnE l nd) = 0 := h5
              have e : ftN l nd s = 0 := if_neg (fun g => by have := g.2.2.2; omega)
              have e2 : ftP l nd s = (jnS l nd 0 = s) := propext ⟨fun g => (g.2.2.2.resolve_left (by omega)).2, fun g => ⟨r, by omega, .inr (by show (l.getD 0 _).2.1.length = _; omega), .inr ⟨h5, g⟩⟩⟩
              rw [e, e2]
              exact ⟨rfl, rfl, rfl, rfl⟩
            · replace h5 : ¬ ((jnE l nd) = 0) := h5
              have e : ftN l nd s = 0 := if_neg (fun g => by have := g.2.2.2; omega)
              have e2 : ftP l nd s = (false = true) := propext ⟨fun g => False.elim (by rcases g.2.2.2 with q | q; (omega); (exact h5 q.1)), fun g => Bool.noConfusion g⟩
              rw [e, e2]
              exact ⟨rfl, rfl, rfl, rfl⟩
      · replace h2 : ¬ (0 < (l.length : Int)) := h2
        refine ⟨⟨by show (-9223372036854775808 : Int) ≤ (nd - 1); omega, by show (nd - 1) ≤ (9223372036854775807 : Int); omega⟩, ⟨by show (-9223372036854775808 : Int) ≤ ((nd - 1) - (l.length : Int)); omega, by show ((nd - 1) - (l.length : Int)) ≤ (9223372036854775807 : Int); omega⟩, fun h6 => ?_, fun h6 => ?_⟩
        · replace h6 : 0 ≤ ((nd - 1) - (l.length : Int)) := h6
          obtain ⟨b1, b2⟩ := mul_bd (a := (nd - 1) - (l.length : Int)) (b := (s.length : Int)) (A := 12) (B := 4096) (by omega) (by omega) (by omega) (by omega)
          refine ⟨⟨by show (-9223372036854775808 : Int) ≤ (((nd - 1) - (l.length : Int)) * (s.length : Int)); omega, by show (((nd - 1) - (l.length : Int)) * (s.length : Int)) ≤ (9223372036854775807 : Int); omega⟩, ?_⟩
          have e : ftN l nd s = (nd - 1 - (l.length : Int)) * (s.length : Int) := if_pos ⟨r, by omega, .inl (by omega), by omega⟩
          have e2 : ftP l nd s = (true = true) := propext ⟨fun _ => rfl, fun _ => ⟨r, by omega, .inl (by omega), .inl (by omega)⟩⟩
          rw [e, e2]
          exact ⟨rfl, rfl, rfl, rfl⟩
        · replace h6 : ¬ (0 ≤ ((nd - 1) - (l.length : Int))) := h6
          refine ⟨rfl, ⟨by show chkE l = 0; first | omega | assumption, by show 1 ≤ nd; first | omega | assumption, by show nd ≤ 12; first | omega | assumption⟩, fun h7 => ?_, fun h7 => ?_⟩
          · replace h7 : (jnE l nd) = 0 := h7
            have e : ftN l nd s = 0 := if_neg (fun g => by have := g.2.2.2; omega)
            have e2 : ftP l nd s = (jnS l nd 0 = s) := propext ⟨fun g => (g.2.2.2.resolve_left (by omega)).2, fun g => ⟨r, by omega, .inl (by omega), .inr ⟨h7, g⟩⟩⟩
            rw [e, e2]
            exact ⟨rfl, rfl, rfl, rfl⟩
          · replace h7 : ¬ ((jnE l nd) = 0) := h7
            have e : ftN l nd s = 0 := if_neg (fun g => by have := g.2.2.2; omega)
            have e2 : ftP l nd s = (false = true) := propext ⟨fun g => False.elim (by rcases g.2.2.2 with q | q; (omega); (exact h7 q.1)), fun g => Bool.noConfusion g⟩
            rw [e, e2]
            exact ⟨rfl, rfl, rfl, rfl⟩
    · replace h1 : 4096 < (s.length : Int) := h1
      have e : ftN l nd s = 0 := if_neg (fun g => by have := g.2.1; omega)
      have e2 : ftP l nd s = (false = true) := propext ⟨fun g => False.elim (by have := g.2.1; omega), fun g => Bool.noConfusion g⟩
      rw [e, e2]
      exact ⟨rfl, rfl, rfl, rfl⟩
  · replace h0 : (rdE l nd) ≠ 0 := h0
    have e : ftN l nd s = 0 := if_neg (fun g => h0 g.1)
    have e2 : ftP l nd s = (false = true) := propext ⟨fun g => False.elim (h0 g.1), fun g => Bool.noConfusion g⟩
    rw [e, e2]
    exact ⟨rfl, rfl, rfl, rfl⟩
def CZFit : List (Nat × Con) := (14, pureC [.v (.sl (.cons (.int .i64) (.cons .str .nil))), .v (.int .i64), .v .str] sZFit) :: CZJoi
theorem kZFit : Known Tryd.prog (En CZFit tys G6 QZCo2) := kZJoi.add Tryd.func14 Tryd.call14 [.k, .k] fun ds p v bs h hp => by
  unfold sZFit at h
  split at h <;> simp only [Option.some.injEq, Prod.mk.injEq, reduceCtorEq] at h
  obtain ⟨rfl, rfl, rfl⟩ := h
  exact bZFit _ _ _ hp.1 hp.2
end Go.Proofs.YtogipicegdbhdaaDoor.S40

/- Texts of this claim: S6.Pk, S6.Pn, S6.Law0, S6.LawA, S6.LawB, S6.LawC, S6.LawD, S6.Cd0. -/
import Derived.Test.YtifaanbnijnbdaaDoorS1
import Derived.Test.YtifaanbnijnbdaaDoorCards
import Derived.Test.YtifaanbnijnbdaaDoorTie
import Derived.WalkKit
import Derived.ProofKit
import Derived.OpenShut
import Derived.Deep.DeepHandedRow
import Derived.Lib.LaidTab
import Derived.Test.YtifaanbnijnbdaaDoorVc3
import Derived.Test.YtifaanbnijnbdaaDoorS0
set_option linter.unusedVariables false
set_option linter.unusedSimpArgs false
namespace Go.Proofs.YtifaanbnijnbdaaDoor.S6
open Go Go.Proofs.YtifaanbnijnbdaaDoor.Vc Go.Proofs
set_option maxRecDepth 100000

/-! ### Decoding -/
theorem sz_eq_len {p : List UInt8} (h : trimL p = p) : sz p = p.length := by unfold sz; rw [h]
theorem sz_sum_right (a b : List UInt8) (h : sz a < sz b) : sz (sumL [a, b]) = sz b := by
  have hb : trimL b ≠ [] := fun e => by have := sz_zero.2 e; omega
  have h1 : sz (sumL [a, b]) = sz b - 1 + 1 := sz_eq (fun i hi => by rw [co_sum, sz_co a i (by omega), sz_co b i (by omega)]; rfl) (by
    rw [co_sum, sz_co a _ (by omega), UInt8.zero_xor]
    exact trim_last b hb)
  omega
theorem divQ_sz (a b : List UInt8) (hb : trimL b ≠ []) (h : sz b ≤ sz a) : sz (divQ a b) + sz b = sz a + 1 := by
  have h1 := div_sum a b hb
  have h2 := div_rem a b hb
  have h0 : 0 < sz b := List.length_pos_iff.2 hb
  have ha : sz (sumL [prodL (divQ a b) b, trimL (divR a b).2]) = sz a := by
    show sz (sumL [prodL (trimL (divR a b).1) b, trimL (divR a b).2]) = sz a
    rw [h1, sz_trim]
  have hq : trimL (divQ a b) ≠ [] := fun e => by
    have h3 : prodL (divQ a b) b = [] := prod_zero_l _ _ e
    have h4 := sz_sum_le (prodL (divQ a b) b) (trimL (divR a b).2) (sz b - 1) (by rw [h3]; exact Nat.zero_le _) (by rw [sz_trim]; omega)
    omega
  have h5 := sz_prod (divQ a b) b hq hb
  have hq0 : 0 < sz (divQ a b) := List.length_pos_iff.2 hq
  have h6 : sz (sumL [prodL (divQ a b) b, trimL (divR a b).2]) = sz (prodL (divQ a b) b) := by
    have e : sumL [prodL (divQ a b) b, trimL (divR a b).2] = sumL [trimL (divR a b).2, prodL (divQ a b) b] := by
      refine (sum_trim _ _).symm.trans ((trim_ext _ _ fun i => ?_).trans (sum_trim _ _))
      rw [co_sum, co_sum, UInt8.xor_comm]
    rw [e]
    exact sz_sum_right _ _ (by rw [sz_trim]; omega)
  omega
/-- What stays so in the loop. -/
structure EuInv (xs ys : List UInt8) (m : Int) (a b u v : List UInt8) : Prop where
  ta : trimL a = a
  tb : trimL b = b
  tu : trimL u = u
  tv : trimL v = v
  ea : ∀ k, k < xs.length → horner (xs.getD k 0) a = mulL (horner (xs.getD k 0) u) (ys.getD k 0)
  eb : ∀ k, k < xs.length → horner (xs.getD k 0) b = mulL (horner (xs.getD k 0) v) (ys.getD k 0)
  lt : sz b < sz a
  uv : sz u < sz v
  sum : sz v + sz a = xs.length + 2
  big : m ≤ 2 * degL a
theorem eu_ok (xs ys : List UInt8) (hxs : xs.length ≤ 10000) (m : Int) (hm : 0 ≤ m) : ∀ (f : Nat) (a b u v : List UInt8), sz b < f → EuInv xs ys m a b u v →
    ∃ b' v', eu f m a b u v = some (b', v') ∧ trimL v' ≠ [] ∧ 2 * degL b' < m ∧ m + 2 * degL v' ≤ 2 * xs.length ∧ ∀ k, k < xs.length → horner (xs.getD k 0) b' = mulL (horner (xs.getD k 0) v') (ys.getD k 0)
  | 0, a, b, u, v, h, _ => by omega
  | f + 1, a, b, u, v, h, I => by
    have h1 := I.sum
    have h2 := I.lt
    have h3 := I.uv
    have hsm : small a ∧ small b ∧ small u ∧ small v := by
      have e1 := sz_eq_len I.ta
      have e2 := sz_eq_len I.tb
      have e3 := sz_eq_len I.tu
      have e4 := sz_eq_len I.tv
      unfold small
      omega
    unfold eu
    rw [if_pos hsm]
    by_cases hb : 2 * degL b < m
    · rw [if_pos hb]
      refine ⟨b, v, rfl, fun e => ?_, hb, ?_, I.eb⟩
      · have := sz_zero.2 e; omega
      · have := I.big
        rw [degL_sz] at this ⊢
        omega
    · rw [if_neg hb]
      have hb0 : trimL b ≠ [] := fun e => by
        have := sz_zero.2 e
        rw [degL_sz] at hb
        omega
      rw [if_neg hb0]
      have hr := div_rem a b hb0
      have hq := divQ_sz a b hb0 (by omega)
      have hv0 : trimL v ≠ [] := fun e => by have := sz_zero.2 e; omega
      have hq0 : trimL (divQ a b) ≠ [] := fun e => by have := sz_zero.2 e; omega
      have hqv := sz_prod (divQ a b) v hq0 hv0
      have hsv : sz (sumL [u, prodL (divQ a b) v]) = sz (prodL (divQ a b) v) := sz_sum_right _ _ (by omega)
      have hrem : sz (divM a b) = sz (divR a b).2 := sz_trim _
      refine eu_ok xs ys hxs m hm f b (divM a b) v (sumL [u, prodL (divQ a b) v]) (by rw [hrem]; omega) ⟨I.tb, trim_idem _, I.tv, sum_trim _ _, I.eb, fun k hk => ?_, by rw [hrem]; exact hr, by omega, by omega, by omega⟩
      have hd := congrArg (horner (xs.getD k 0)) (div_sum a b hb0)
      rw [horner_sum, horner_prod, horner_trim (xs.getD k 0) a] at hd
      have e1 : horner (xs.getD k 0) (divM a b) = horner (xs.getD k 0) a ^^^ mulL (horner (xs.getD k 0) (divQ a b)) (horner (xs.getD k 0) b) := by
        rw [← hd]
        show _ = (mulL (horner (xs.getD k 0) (divQ a b)) (horner (xs.getD k 0) b) ^^^ horner (xs.getD k 0) (divM a b)) ^^^ _
        have : ∀ x y : UInt8, y = x ^^^ y ^^^ x := fun x y => by
          have : x ^^^ y ^^^ x = y ^^^ (x ^^^ x) := by ac_rfl
          rw [this]; simp
        exact this _ _
      rw [e1, I.ea k hk, I.eb k hk, horner_sum, horner_prod, mulL_add, ← mul_assoc']
theorem eu_start (xs ys : List UInt8) (h : rightP xs ys) (d : Int) (hd : d < xs.length) : EuInv xs ys (xs.length + d + 1) (rootsL xs) (thrL xs ys) [] [1] where
  ta := fold_trim _ (fun p x => prod_trim _ _) _ _ trim_one
  tb := thrL_trim xs ys
  tu := rfl
  tv := trim_one
  ea k hk := by
    rw [rootsL_zero xs _ (by simp [List.getElem?_eq_getElem hk])]
    exact (zero_mul' _).symm
  eb k hk := by
    rw [thrL_val xs ys h k hk, horner_const, one_mul']
  lt := by
    have h1 := (rootsL_sz xs).2
    have h2 := thrL_sz xs ys
    omega
  uv := by
    have : sz [1] = 1 := by unfold sz; rw [trim_one]; rfl
    rw [this]; exact Nat.zero_lt_one
  sum := by
    have h1 := (rootsL_sz xs).2
    have : sz [1] = 1 := by unfold sz; rw [trim_one]; rfl
    omega
  big := by
    have h1 := (rootsL_sz xs).2
    rw [degL_sz]
    omega
/-- The places that a polynomial misses. -/
def missX (p xs ys : List UInt8) : Nat → List UInt8
  | 0 => []
  | k + 1 => if horner (xs.getD k 0) p ≠ ys.getD k 0 then missX p xs ys k ++ [xs.getD k 0] else missX p xs ys k
theorem missX_len (p xs ys : List UInt8) : ∀ n, (missX p xs ys n).length = (missA p xs ys n).length
  | 0 => rfl
  | n + 1 => by
    have := missX_len p xs ys n
    unfold missX missA
    split
    · rw [List.length_append, List.length_append, this]; rfl
    · exact this
theorem missX_mem (p xs ys : List UInt8) : ∀ n k, k < n → horner (xs.getD k 0) p ≠ ys.getD k 0 → xs.getD k 0 ∈ missX p xs ys n
  | 0, k, h, _ => by omega
  | n + 1, k, h, hne => by
    unfold missX
    by_cases e : k = n
    · rw [e] at hne ⊢
      rw [if_pos hne]
      simp
    · have := missX_mem p xs ys n k (by omega) hne
      split
      · exact List.mem_append_left _ this
      · exact this
theorem missA_ext (p q xs ys : List UInt8) (h : ∀ x, horner x p = horner x q) : ∀ n, missA p xs ys n = missA q xs ys n
  | 0 => rfl
  | n + 1 => by
    unfold missA
    rw [missA_ext p q xs ys h n, h]
theorem missA_trim (p xs ys : List UInt8) (n : Nat) : missA (trimL p) xs ys n = missA p xs ys n := missA_ext _ _ _ _ (fun x => horner_trim x p) n
def decOk (xs : List UInt8) (d w : Int) : Prop := ¬ (d < 0 ∨ w < 0 ∨ (xs.length : Int) ≤ d ∨ ((xs.length : Int) - d - 1) / 2 < w)
theorem dec_run (xs ys : List UInt8) (hr : rightP xs ys) (hxs : xs.length ≤ 10000) (d w : Int) (hc : decOk xs d w) :
    ∃ b v, decL xs ys d w = decEnd xs ys d w b v ∧ trimL v ≠ [] ∧ 2 * degL b < xs.length + d + 1 ∧ d + 1 + 2 * degL v ≤ xs.length ∧ ∀ k, k < xs.length → horner (xs.getD k 0) b = mulL (horner (xs.getD k 0) v) (ys.getD k 0) := by
  unfold decOk at hc
  have h1 := thrL_sz xs ys
  obtain ⟨b, v, he, hv, hb, hs, hk⟩ := eu_ok xs ys hxs (xs.length + d + 1) (by omega) 20000 _ _ _ _ (by omega) (eu_start xs ys hr d (by omega))
  refine ⟨b, v, ?_, hv, hb, by omega, hk⟩
  unfold decL
  rw [if_pos hr, if_neg hc, he]
theorem decEnd_cases (xs ys : List UInt8) (d w : Int) (b v : List UInt8) (hv : trimL v ≠ []) :
    (decEnd xs ys d w b v = some ([], [], 17)) ∨ (decEnd xs ys d w b v = some (divQ b v, missA (divQ b v) xs ys xs.length, 0) ∧ degL (divQ b v) ≤ d ∧ ((missA (divQ b v) xs ys xs.length).length : Int) ≤ w) := by
  unfold decEnd
  rw [if_neg hv]
  split
  · exact .inl rfl
  · split
    · exact .inl rfl
    · split
      · exact .inl rfl
      · exact .inr ⟨rfl, by omega, by omega⟩
/-- A polynomial that misses few points is found. -/
theorem dec_complete (xs ys : List UInt8) (hr : rightP xs ys) (hxs : xs.length ≤ 10000) (d w : Int) (hc : decOk xs d w) (q : List UInt8) (hq : degL q ≤ d) (hm : ((missA q xs ys xs.length).length : Int) ≤ w) :
    decL xs ys d w = some (trimL q, missA q xs ys xs.length, 0) := by
  obtain ⟨b, v, he, hv, hb, hs, hk⟩ := dec_run xs ys hr hxs d w hc
  unfold decOk at hc
  obtain ⟨e, hee⟩ : ∃ e, e = rootsL (missX q xs ys xs.length) := ⟨_, rfl⟩
  have hes : trimL e ≠ [] ∧ sz e = (missA q xs ys xs.length).length + 1 := by rw [hee, ← missX_len]; exact rootsL_sz _
  have hv1 : 0 < sz v := List.length_pos_iff.2 hv
  rw [degL_sz] at hq hb hs
  have hbe := sz_prod_le b e
  have hve := sz_prod_le v e
  have hveq := sz_prod_le (prodL v e) q
  have hAB : trimL (prodL b e) = trimL (prodL (prodL v e) q) := by
    refine poly_unique xs _ _ hr.1 (fun x hx => ?_) (by omega) (by omega)
    obtain ⟨k, hk', rfl⟩ := List.mem_iff_getElem.1 hx
    have e1 : xs.getD k 0 = xs[k] := by simp [List.getElem?_eq_getElem hk']
    rw [← e1, horner_prod, horner_prod, horner_prod, hk k hk']
    by_cases hmiss : horner (xs.getD k 0) q = ys.getD k 0
    · rw [hmiss]; ac_rfl
    · have : horner (xs.getD k 0) e = 0 := by rw [hee]; exact rootsL_zero _ _ (missX_mem q xs ys _ k hk' hmiss)
      rw [this, mul_zero', mul_zero', zero_mul']
  have hb1 : trimL b = trimL (prodL v q) := by
    refine (div_unique e b (prodL v q) [] [] hes.1 (fun n => ?_) (fun _ _ => rfl) (fun _ _ => rfl)).1
    congr 1
    rw [← co_prod, ← co_prod]
    refine co_eq_of_trim ?_ n
    rw [hAB, prod_assoc, prod_assoc, prod_comm e q]
  have hd := div_ok b v hv
  have h0 : 0 < sz v := hv1
  obtain ⟨h5, h6⟩ := div_unique v (divR b v).1 q (divR b v).2 [] hv (fun n => by
    rw [hd.1 n, co_nil, co_eq_of_trim hb1 n, co_prod, cv_comm]; simp) hd.2 (fun _ _ => rfl)
  have hQ : divQ b v = trimL q := h5
  have hM : divM b v = [] := h6
  rw [he]
  unfold decEnd
  rw [if_neg hv, hM, if_neg (by simp), hQ, if_neg (by rw [degL_sz, sz_trim]; omega), missA_trim, if_neg (by omega)]
/-- What is returned. -/
theorem dec_sound (xs ys : List UInt8) (hr : rightP xs ys) (hxs : xs.length ≤ 10000) (d w : Int) (hc : decOk xs d w) :
    decL xs ys d w = some ([], [], 17) ∨ ∃ p, decL xs ys d w = some (p, missA p xs ys xs.length, 0) ∧ trimL p = p ∧ degL p ≤ d ∧ ((missA p xs ys xs.length).length : Int) ≤ w := by
  obtain ⟨b, v, he, hv, hb, hs, hk⟩ := dec_run xs ys hr hxs d w hc
  rw [he]
  rcases decEnd_cases xs ys d w b v hv with h | ⟨h1, h2, h3⟩
  · exact .inl h
  · exact .inr ⟨divQ b v, h1, trim_idem _, h2, h3⟩
theorem dec_some (xs ys : List UInt8) (hxs : xs.length ≤ 10000) (d w : Int) : (decL xs ys d w).isSome = true := by
  by_cases hr : rightP xs ys
  · by_cases hc : decOk xs d w
    · rcases dec_sound xs ys hr hxs d w hc with h | ⟨p, h, _⟩ <;> rw [h] <;> rfl
    · unfold decOk at hc
      unfold decL
      rw [if_pos hr, if_pos (Classical.not_not.1 hc)]
      rfl
  · unfold decL
    rw [if_neg hr]
    rfl
end Go.Proofs.YtifaanbnijnbdaaDoor.S6

namespace Go.Proofs.YtifaanbnijnbdaaDoor.S6
open Go Go.Proofs.YtifaanbnijnbdaaDoor.Vc Go.Proofs
set_option maxRecDepth 100000

/-! ### The specification's search -/
theorem pickL_sub (xs : List UInt8) (s : Nat) : ∀ k, k ≤ xs.length → (pickL xs s k).Sublist (xs.take k)
  | 0, _ => by rw [List.take_zero]; exact .slnil
  | k + 1, h => by
    have ih := pickL_sub xs s k (by omega)
    rw [take_snoc xs k (by omega), pickL]
    split
    · exact ih.append (List.Sublist.refl _)
    · exact ih.trans (List.sublist_append_left _ _)
theorem pickL_nodup (xs : List UInt8) (s : Nat) (hn : xs.Nodup) : (pickL xs s xs.length).Nodup := by
  have := pickL_sub xs s xs.length (Nat.le_refl _)
  rw [List.take_length] at this
  exact hn.sublist this
theorem bit_low (s k j : Nat) (hj : j < k) : (s + 2 ^ k) / 2 ^ j % 2 = s / 2 ^ j % 2 := by
  have e : 2 ^ k = 2 ^ j * (2 * 2 ^ (k - j - 1)) := by
    rw [← Nat.pow_succ', ← Nat.pow_add]
    congr 1
    omega
  rw [e, Nat.add_mul_div_left _ _ (Nat.pow_pos (by decide))]
  omega
theorem pickL_low (xs : List UInt8) (s k : Nat) : ∀ j, j ≤ k → pickL xs (s + 2 ^ k) j = pickL xs s j
  | 0, _ => rfl
  | j + 1, h => by
    unfold pickL
    rw [bit_low s k j (by omega), pickL_low xs s k j (by omega)]
/-- The first of the good places, as a set. -/
theorem choose (xs : List UInt8) (good : Nat → Prop) [DecidablePred good] (c : Nat) : ∀ n, ∃ s, s < 2 ^ n ∧ (∀ k, k < n → s / 2 ^ k % 2 = 1 → good k) ∧ (pickL xs s n).length = min c ((List.range n).countP fun k => decide (good k))
  | 0 => ⟨0, by decide, fun k h => by omega, by simp [pickL]⟩
  | n + 1 => by
    obtain ⟨s, h1, h2, h3⟩ := choose xs good c n
    have hz : s / 2 ^ n % 2 = 0 := by rw [Nat.div_eq_of_lt h1]
    by_cases hg : good n ∧ (pickL xs s n).length < c
    · refine ⟨s + 2 ^ n, by rw [Nat.pow_succ]; omega, fun k hk hb => ?_, ?_⟩
      · by_cases e : k = n
        · rw [e]; exact hg.1
        · rw [bit_low s n k (by omega)] at hb
          exact h2 k (by omega) hb
      · have hb : (s + 2 ^ n) / 2 ^ n % 2 = 1 := by
          rw [Nat.add_div_right _ (Nat.pow_pos (by decide)), Nat.div_eq_of_lt h1]
        rw [pickL, if_pos hb, pickL_low xs s n n (Nat.le_refl _), List.length_append, List.length_singleton, List.range_succ, List.countP_append, List.countP_singleton, if_pos (by simpa using hg.1), h3]
        omega
    · refine ⟨s, by rw [Nat.pow_succ]; omega, fun k hk hb => ?_, ?_⟩
      · by_cases e : k = n
        · rw [e, hz] at hb; omega
        · exact h2 k (by omega) hb
      · rw [pickL, if_neg (by omega), List.range_succ, List.countP_append, List.countP_singleton, h3]
        by_cases hgn : good n
        · have : ¬ (pickL xs s n).length < c := fun h => hg ⟨hgn, h⟩
          rw [if_pos (by simpa using hgn)]
          omega
        · rw [if_neg (by simpa using hgn)]
          rfl
theorem pickL_vals (xs ys p : List UInt8) (s : Nat) : ∀ n, (∀ k, k < n → s / 2 ^ k % 2 = 1 → horner (xs.getD k 0) p = ys.getD k 0) → pickL ys s n = (pickL xs s n).map (fun x => horner x p)
  | 0, _ => rfl
  | n + 1, h => by
    have ih := pickL_vals xs ys p s n fun k hk => h k (by omega)
    unfold pickL
    split
    · rename_i hb
      rw [List.map_append, ih, ← h n (by omega) hb]
      rfl
    · exact ih
theorem miss_count (p xs ys : List UInt8) : ∀ n, (missA p xs ys n).length + ((List.range n).countP fun k => decide (horner (xs.getD k 0) p = ys.getD k 0)) = n
  | 0 => rfl
  | n + 1 => by
    have ih := miss_count p xs ys n
    rw [List.range_succ, List.countP_append, List.countP_singleton, missA]
    by_cases h : horner (xs.getD n 0) p = ys.getD n 0
    · rw [if_neg (fun h' => h' h), if_pos (by simpa using h)]; omega
    · rw [if_pos h, if_neg (by simpa using h), List.length_append, List.length_singleton]; omega
theorem rdF_none (a b : List UInt8) (d w : Int) : ∀ (f s : Nat), rdF a b d w f s = none → ∀ t, s ≤ t → t < s + f → ¬ rdOk a b d w t
  | 0, s, _, t, h1, h2 => by omega
  | f + 1, s, h, t, h1, h2 => by
    unfold rdF at h
    split at h
    · cases h
    · rename_i hn
      by_cases e : t = s
      · rw [e]; exact hn
      · exact rdF_none a b d w f (s + 1) h t (by omega) (by omega)
theorem rdF_some (a b : List UInt8) (d w : Int) : ∀ (f s t : Nat), rdF a b d w f s = some t → rdOk a b d w t
  | 0, s, t, h => by cases h
  | f + 1, s, t, h => by
    unfold rdF at h
    split at h
    · cases h; assumption
    · exact rdF_some a b d w f (s + 1) t h
theorem lineL_vals (xs p : List UInt8) (hn : xs.Nodup) (hp : sz p ≤ xs.length) : lineL xs (xs.map (fun x => horner x p)) = trimL p := by
  have hr : rightP xs (xs.map (fun x => horner x p)) := ⟨hn, by rw [List.length_map]⟩
  rw [← thr_line xs _ hr]
  refine thrL_unique xs _ p hr hp fun k hk => ?_
  simp [List.getElem?_eq_getElem hk]
theorem dec_same (a b : List UInt8) (d w : Int) (ha : a.length ≤ 10000) : decL a b d w = some (rdecL a b d w) := by
  by_cases hr : rightP a b
  · by_cases hc : decOk a d w
    · have hc' : ¬ (d < 0 ∨ w < 0 ∨ (a.length : Int) ≤ d ∨ (a.length : Int) < w ∨ (a.length : Int) < d + 1 + 2 * w) := by
        unfold decOk at hc
        omega
      unfold rdecL
      rw [if_pos hr, if_neg hc']
      cases hF : rdF a b d w (2 ^ a.length) 0 with
      | some t =>
        have ht := rdF_some a b d w _ _ t hF
        have h1 := lineL_sz (pickL a t a.length) (pickL b t a.length)
        have h2 := ht.1
        rw [dec_complete a b hr ha d w hc _ (by rw [degL_sz]; omega) ht.2, lineL_trim]
        rfl
      | none =>
        have hno := rdF_none a b d w _ _ hF
        rcases dec_sound a b hr ha d w hc with h | ⟨p, h, hp, hdp, hw⟩
        · rw [h]; rfl
        · exfalso
          have hcnt := miss_count p a b a.length
          obtain ⟨s, hs1, hs2, hs3⟩ := choose a (fun k => horner (a.getD k 0) p = b.getD k 0) (d + 1).toNat a.length
          have hlen : (pickL a s a.length).length = (d + 1).toNat := by
            rw [hs3]
            omega
          have hv := pickL_vals a b p s a.length hs2
          have hl : lineL (pickL a s a.length) (pickL b s a.length) = p := by
            rw [hv, lineL_vals _ p (pickL_nodup a s hr.1) (by rw [hlen]; rw [degL_sz] at hdp; omega), hp]
          refine hno s (Nat.zero_le _) (by omega) ⟨?_, ?_⟩
          · rw [hlen]; omega
          · rw [hl]; exact hw
    · have hc' : (d < 0 ∨ w < 0 ∨ (a.length : Int) ≤ d ∨ (a.length : Int) < w ∨ (a.length : Int) < d + 1 + 2 * w) := by
        unfold decOk at hc
        omega
      unfold decOk at hc
      unfold decL rdecL
      rw [if_pos hr, if_pos (Classical.not_not.1 hc), if_pos hr, if_pos hc']
  · unfold decL rdecL
    rw [if_neg hr, if_neg hr]
end Go.Proofs.YtifaanbnijnbdaaDoor.S6

namespace Go.Proofs.YtifaanbnijnbdaaDoor.S6
open Go Go.Proofs.YtifaanbnijnbdaaDoor.Vc Go.Proofs
set_option maxRecDepth 100000
set_option linter.unusedVariables false

def sSanity : List V → Option (Prop × V × List Blk)
  | [] => some (True, .b True, [])
  | _ => none
set_option maxHeartbeats 4000000 in
theorem bSanity   : bodyP ⟨CRDec, tys, G6⟩ Tryd.f10 [.k] [] (.b True) [] := by
  refine ⟨⟨by show ([1, 1] : List UInt8).length ≤ 100000; decide +kernel, by show ([1, 1] : List UInt8).length ≤ 100000; decide +kernel⟩, ⟨by show ([1, 0, 1] : List UInt8).length ≤ 100000; decide +kernel, by show ([1, 1] : List UInt8).length ≤ 100000; decide +kernel⟩, ⟨by show ([1, 2, 3] : List UInt8).length ≤ 100000; decide +kernel, by show ([0, 0] : List UInt8).length ≤ 100000; decide +kernel⟩, ⟨by show ([0, 1, 2] : List UInt8).length ≤ 10000; decide +kernel, by show ([1, 0, 9] : List UInt8).length ≤ 10000; decide +kernel⟩, rfl, ⟨by show ([0, 1, 2] : List UInt8).length ≤ 10000; decide +kernel, by show ([1, 0, 9] : List UInt8).length ≤ 10000; decide +kernel⟩, rfl, ⟨by show ([0, 1, 2] : List UInt8).length ≤ 10000; decide +kernel, by show ([1, 0, 9] : List UInt8).length ≤ 10000; decide +kernel⟩, rfl, rfl, ⟨by show ([0, 1, 2, 3, 4, 5] : List UInt8).length ≤ 10000; decide +kernel, by show ([1, 0, 7, 8, 57, 56] : List UInt8).length ≤ 10000; decide +kernel, by show (decL ([0, 1, 2, 3, 4, 5] : List UInt8) ([1, 0, 7, 8, 57, 56] : List UInt8) 2 1).isSome = true; decide +kernel⟩, rfl, rfl, ⟨by show ([0, 1, 2] : List UInt8).length ≤ 10000; decide +kernel, by show ([1, 0, 9] : List UInt8).length ≤ 10000; decide +kernel, by show (decL ([0, 1, 2] : List UInt8) ([1, 0, 9] : List UInt8) 1 1).isSome = true; decide +kernel⟩, fun h0 => ?_, fun h0 => absurd h0 (show ¬ ((mulPE ([1, 1] : List UInt8) ([1, 1] : List UInt8)) ≠ 0) by decide +kernel)⟩
  refine ⟨fun h1 => ?_, fun h1 => absurd h1 (show ¬ ((dmE ([1, 0, 1] : List UInt8) ([1, 1] : List UInt8)) ≠ 0) by decide +kernel)⟩
  refine ⟨fun h2 => ?_, fun h2 => absurd h2 (show ¬ ((dmE ([1, 2, 3] : List UInt8) ([0, 0] : List UInt8)) ≠ 1) by decide +kernel)⟩
  refine ⟨fun h3 => ?_, fun h3 => absurd h3 (show ¬ (((ipL ([0, 1, 2] : List UInt8) ([1, 0, 9] : List UInt8)).2) ≠ 0) by decide +kernel)⟩
  refine ⟨fun h4 => ?_, fun h4 => absurd h4 (show ¬ (((tpL ([0, 1, 2] : List UInt8) ([1, 0, 9] : List UInt8) 1).2) ≠ 8) by decide +kernel)⟩
  refine ⟨fun h5 => ?_, fun h5 => absurd h5 (show ¬ (((tpL ([0, 1, 2] : List UInt8) ([1, 0, 9] : List UInt8) 2).2) ≠ 0) by decide +kernel)⟩
  refine ⟨fun h6 => ?_, fun h6 => absurd h6 (show ¬ (((decT ([0, 1, 2, 3, 4, 5] : List UInt8) ([1, 0, 7, 8, 57, 56] : List UInt8) 2 1).2.2) ≠ 0) by decide +kernel)⟩
  refine ⟨fun h7 => absurd h7 (show ¬ (((decT ([0, 1, 2] : List UInt8) ([1, 0, 9] : List UInt8) 1 1).2.2) ≠ 3) by decide +kernel), fun h7 => ?_⟩
  refine ⟨⟨by show (mulPL ([1, 1] : List UInt8) ([1, 1] : List UInt8)).length ≤ 1000000; decide +kernel, by show ([1, 0, 1] : List UInt8).length ≤ 1000000; decide +kernel⟩, fun h8 => ?_, fun h8 => absurd (show (mulPL ([1, 1] : List UInt8) ([1, 1] : List UInt8)) = ([1, 0, 1] : List UInt8) by decide +kernel) h8⟩
  refine ⟨⟨by show (dmQ ([1, 0, 1] : List UInt8) ([1, 1] : List UInt8)).length ≤ 1000000; decide +kernel, by show ([1, 1] : List UInt8).length ≤ 1000000; decide +kernel⟩, fun h9 => ?_, fun h9 => absurd (show (dmQ ([1, 0, 1] : List UInt8) ([1, 1] : List UInt8)) = ([1, 1] : List UInt8) by decide +kernel) h9⟩
  refine ⟨fun h10 => ?_, fun h10 => absurd (show (((dmR ([1, 0, 1] : List UInt8) ([1, 1] : List UInt8)).length : Nat) : Int) = 0 by decide +kernel) h10⟩
  refine ⟨⟨by show ((ipL ([0, 1, 2] : List UInt8) ([1, 0, 9] : List UInt8)).1).length ≤ 1000000; decide +kernel, by show ([1, 2, 3] : List UInt8).length ≤ 1000000; decide +kernel⟩, fun h11 => ?_, fun h11 => absurd (show ((ipL ([0, 1, 2] : List UInt8) ([1, 0, 9] : List UInt8)).1) = ([1, 2, 3] : List UInt8) by decide +kernel) h11⟩
  refine ⟨⟨by show ((tpL ([0, 1, 2] : List UInt8) ([1, 0, 9] : List UInt8) 2).1).length ≤ 1000000; decide +kernel, by show ([1, 2, 3] : List UInt8).length ≤ 1000000; decide +kernel⟩, fun h12 => ?_, fun h12 => absurd (show ((tpL ([0, 1, 2] : List UInt8) ([1, 0, 9] : List UInt8) 2).1) = ([1, 2, 3] : List UInt8) by decide +kernel) h12⟩
  refine ⟨⟨by show ((decT ([0, 1, 2, 3, 4, 5] : List UInt8) ([1, 0, 7, 8, 57, 56] : List UInt8) 2 1).1).length ≤ 1000000; decide +kernel, by show ([1, 2, 3] : List UInt8).length ≤ 1000000; decide +kernel⟩, fun h13 => ?_, fun h13 => absurd (show ((decT ([0, 1, 2, 3, 4, 5] : List UInt8) ([1, 0, 7, 8, 57, 56] : List UInt8) 2 1).1) = ([1, 2, 3] : List UInt8) by decide +kernel) h13⟩
  refine ⟨rfl, ⟨by show ((decT ([0, 1, 2, 3, 4, 5] : List UInt8) ([1, 0, 7, 8, 57, 56] : List UInt8) 2 1).2.1).length ≤ 1000000; decide +kernel, by show ([2] : List Int).length ≤ 1000000; decide +kernel⟩, fun h14 => ?_, fun h14 => absurd (show ((decT ([0, 1, 2, 3, 4, 5] : List UInt8) ([1, 0, 7, 8, 57, 56] : List UInt8) 2 1).2.1) = ([2] : List Int) by decide +kernel) h14⟩
  refine ⟨by show ([1, 2, 3] : List UInt8).length ≤ 1000000; decide +kernel, fun h15 => ?_, fun h15 => absurd (show (horner 2 ([1, 2, 3] : List UInt8)) = 9 by decide +kernel) h15⟩
  refine ⟨by show ([1, 2, 3] : List UInt8).length ≤ 1000000; decide +kernel, fun h16 => ?_, fun h16 => absurd (show (horner 0 ([1, 2, 3] : List UInt8)) = 1 by decide +kernel) h16⟩
  refine ⟨by show ([5, 0, 0] : List UInt8).length ≤ 1000000; decide +kernel, fun h17 => ?_, fun h17 => absurd (show (degL ([5, 0, 0] : List UInt8)) = 0 by decide +kernel) h17⟩
  refine ⟨by show ([0, 0] : List UInt8).length ≤ 1000000; decide +kernel, fun h18 => ?_, fun h18 => absurd (show (degL ([0, 0] : List UInt8)) = (-1) by decide +kernel) h18⟩
  refine ⟨by show ([5, 0, 0] : List UInt8).length ≤ 1000000; decide +kernel, ⟨by show (trimL ([5, 0, 0] : List UInt8)).length ≤ 1000000; decide +kernel, by show ([5] : List UInt8).length ≤ 1000000; decide +kernel⟩, ?_⟩
  exact ⟨rfl, rfl, congrArg V.b (propext ⟨fun _ => trivial, fun _ => by show (trimL ([5, 0, 0] : List UInt8)) = ([5] : List UInt8); decide +kernel⟩), rfl⟩
def CSanity : List (Nat × Con) := (10, pureC [] sSanity) :: CRDec
theorem kSanity : Known Tryd.prog ⟨CSanity, tys, G6⟩ := kRDec.add Tryd.func10 Tryd.call10 [.k] fun ds p v bs h hp => by
  unfold sSanity at h
  split at h <;> simp only [Option.some.injEq, Prod.mk.injEq, reduceCtorEq] at h
  obtain ⟨rfl, rfl, rfl⟩ := h
  exact bSanity 
end Go.Proofs.YtifaanbnijnbdaaDoor.S6

namespace Go.Proofs.YtifaanbnijnbdaaDoor.S6
open Go Go.Proofs.YtifaanbnijnbdaaDoor.Vc Go.Proofs
set_option maxRecDepth 100000
set_option linter.unusedVariables false

def sLRing : List V → Option (Prop × V × List Blk)
  | [.sl false .u8 a, .sl false .u8 b, .u8 x] => some (a.length ≤ 1048576 ∧ b.length ≤ 1048576, .b True, [])
  | _ => none
set_option maxHeartbeats 4000000 in
theorem bLRing (a : List UInt8) (b : List UInt8) (x : UInt8) (hp0 : a.length ≤ 1048576) (hp1 : b.length ≤ 1048576) : bodyP ⟨CSanity, tys, G6⟩ Tryd.f9 [.k] [.sl false .u8 a, .sl false .u8 b, .u8 x] (.b True) [] := by
  refine ⟨fun h0 => ?_, fun h0 => ?_⟩
  · replace h0 : ¬ (40 < (a.length : Int)) := h0
    refine ⟨fun h1 => ?_, fun h1 => ?_⟩
    · replace h1 : 40 < (b.length : Int) := h1
      refine ⟨trivial, ?_⟩
      exact ⟨rfl, rfl, congrArg V.b (propext ⟨fun _ => trivial, fun _ => (show True by first | trivial | rfl | exact hdE0 (by omega) | exact hdE1 (by omega) | exact hmE (by omega) | exact hrem (by omega) | exact hsum (by omega) | exact fun h => h hE | exact fun h => h hA | exact fun h => h hV | exact fun h => h (hD (by omega) (by omega)) | exact fun h => h (hD0 (by omega)))⟩), rfl⟩
    · replace h1 : ¬ (40 < (b.length : Int)) := h1
      have ha : a.length ≤ 40 := by omega
      have hb : b.length ≤ 40 := by omega
      have hlong : ¬ longB a b = true := by simp [longB]; omega
      have hE : mulPE a b = 0 := if_neg hlong
      have hM : mulPL a b = prodL a b := if_neg hlong
      have hz : degL b < 0 ↔ trimL b = [] := by
        rw [degL_sz, ← sz_zero]
        omega
      have hza : degL a < 0 ↔ trimL a = [] := by
        rw [degL_sz, ← sz_zero]
        omega
      have hda : -1 ≤ degL a ∧ degL a ≤ 40 := by rw [degL_sz]; have := sz_len a; omega
      have hdb : -1 ≤ degL b ∧ degL b ≤ 40 := by rw [degL_sz]; have := sz_len b; omega
      have hdE0 : 0 ≤ degL b → dmE a b = 0 := fun h => by
        have hb0 : ¬ trimL b = [] := fun e => by have := hz.2 e; omega
        unfold dmE; rw [if_neg hlong, if_neg hb0]
      have hdE1 : degL b < 0 → dmE a b = 1 := fun h => by unfold dmE; rw [if_neg hlong, if_pos (hz.1 h)]
      have hQ : 0 ≤ degL b → dmQ a b = trimL (divR a b).1 := fun h => by
        have hb0 : ¬ trimL b = [] := fun e => by have := hz.2 e; omega
        unfold dmQ; rw [if_neg hlong, if_neg hb0]
      have hR : 0 ≤ degL b → dmR a b = trimL (divR a b).2 := fun h => by
        have hb0 : ¬ trimL b = [] := fun e => by have := hz.2 e; omega
        unfold dmR; rw [if_neg hlong, if_neg hb0]
      have hlm := prodL_len a b
      have hlM : (mulPL a b).length ≤ 80 := by rw [hM]; omega
      have hls : (sumL [a, b]).length ≤ 40 := sumL_two_len _ _ _ ha hb
      have hta := trimL_len a
      have hlq : (dmQ a b).length ≤ 41 := by
        by_cases h : 0 ≤ degL b
        · rw [hQ h]; exact Nat.le_trans (divQ_len a b) (by omega)
        · unfold dmQ; rw [if_neg hlong, if_pos (hz.1 (by omega))]; exact Nat.zero_le _
      have hlr : (dmR a b).length ≤ 41 := by
        by_cases h : 0 ≤ degL b
        · rw [hR h]
          have h1 := div_rem a b fun e => by have := hz.2 e; omega
          have h2 := sz_len b
          unfold sz at *
          omega
        · unfold dmR; rw [if_neg hlong, if_pos (hz.1 (by omega))]; exact Nat.zero_le _
      have hlong2 : ¬ longB (dmQ a b) b = true := by simp [longB]; omega
      have hmE : 0 ≤ degL b → mulPE (dmQ a b) b = 0 := fun _ => if_neg hlong2
      have hmM : mulPL (dmQ a b) b = prodL (dmQ a b) b := if_neg hlong2
      have hlm2 := prodL_len (dmQ a b) b
      have hlM2 : (mulPL (dmQ a b) b).length ≤ 90 := by rw [hmM]; omega
      have hls2 : (sumL [mulPL (dmQ a b) b, dmR a b]).length ≤ 90 := sumL_two_len _ _ _ hlM2 (by omega)
      have hA : horner x (sumL [a, b]) = horner x a ^^^ horner x b := horner_sum x a b
      have hV : horner x (mulPL a b) = mulL (horner x a) (horner x b) := by rw [hM, horner_prod]
      have hD : 0 ≤ degL a → 0 ≤ degL b → degL (mulPL a b) = degL a + degL b := fun h1 h2 => by
        rw [hM, degL_sz, degL_sz, degL_sz]
        have := sz_prod a b (fun e => by have := hza.2 e; omega) (fun e => by have := hz.2 e; omega)
        omega
      have hD0 : (degL a < 0 ∨ degL b < 0) → degL (mulPL a b) = -1 := fun h => by
        rw [hM]
        rcases h with h | h
        · rw [prod_zero_l a b (hza.1 h)]; rfl
        · rw [prod_zero_r a b (hz.1 h)]; rfl
      have hsum : 0 ≤ degL b → sumL [mulPL (dmQ a b) b, dmR a b] = trimL a := fun h => by
        rw [hmM, hQ h, hR h]
        exact div_sum a b fun e => by have := hz.2 e; omega
      have hrem : 0 ≤ degL b → degL (dmR a b) < degL b := fun h => by
        rw [hR h, degL_sz, degL_sz, sz_trim]
        have := div_rem a b fun e => by have := hz.2 e; omega
        omega
      refine ⟨⟨by show a.length ≤ 100000; first | omega | assumption, by show b.length ≤ 100000; first | omega | assumption⟩, by show a.length ≤ 1000000; first | omega | assumption, by show b.length ≤ 1000000; first | omega | assumption, fun h2 => ?_, fun h2 => absurd h2 (show ¬ ((mulPE a b) ≠ 0) by first | trivial | rfl | exact hdE0 (by omega) | exact hdE1 (by omega) | exact hmE (by omega) | exact hrem (by omega) | exact hsum (by omega) | exact fun h => h hE | exact fun h => h hA | exact fun h => h hV | exact fun h => h (hD (by omega) (by omega)) | exact fun h => h (hD0 (by omega)))⟩
      refine ⟨⟨by show a.length ≤ 1000000; first | omega | assumption, by show b.length ≤ 1000000; first | omega | assumption⟩, by show (sumL [a, b]).length ≤ 1000000; first | omega | assumption | (simp only [List.length_cons, List.length_nil, List.length_append, List.length_take, List.length_drop, List.length_set, List.length_replicate]; omega), fun h3 => ?_, fun h3 => absurd h3 (show ¬ ((horner x (sumL [a, b])) ≠ ((horner x a) ^^^ (horner x b))) by first | trivial | rfl | exact hdE0 (by omega) | exact hdE1 (by omega) | exact hmE (by omega) | exact hrem (by omega) | exact hsum (by omega) | exact fun h => h hE | exact fun h => h hA | exact fun h => h hV | exact fun h => h (hD (by omega) (by omega)) | exact fun h => h (hD0 (by omega)))⟩
      refine ⟨by show (mulPL a b).length ≤ 1000000; first | omega | assumption, trivial, fun h4 => absurd h4 (show ¬ ((horner x (mulPL a b)) ≠ (mulL (horner x a) (horner x b))) by first | trivial | rfl | exact hdE0 (by omega) | exact hdE1 (by omega) | exact hmE (by omega) | exact hrem (by omega) | exact hsum (by omega) | exact fun h => h hE | exact fun h => h hA | exact fun h => h hV | exact fun h => h (hD (by omega) (by omega)) | exact fun h => h (hD0 (by omega))), fun h4 => ?_⟩
      refine ⟨by show a.length ≤ 1000000; first | omega | assumption, by show b.length ≤ 1000000; first | omega | assumption, fun h5 => ?_, fun h5 => ?_⟩
      · replace h5 : 0 ≤ (degL a) := h5
        refine ⟨fun h6 => ?_, fun h6 => ?_⟩
        · replace h6 : 0 ≤ (degL b) := h6
          refine ⟨by show (mulPL a b).length ≤ 1000000; first | omega | assumption, ⟨by omega, by omega⟩, fun h7 => ?_, fun h7 => absurd h7 (show ¬ ((degL (mulPL a b)) ≠ ((degL a) + (degL b))) by first | trivial | rfl | exact hdE0 (by omega) | exact hdE1 (by omega) | exact hmE (by omega) | exact hrem (by omega) | exact hsum (by omega) | exact fun h => h hE | exact fun h => h hA | exact fun h => h hV | exact fun h => h (hD (by omega) (by omega)) | exact fun h => h (hD0 (by omega)))⟩
          refine ⟨fun h8 => ?_, fun h8 => absurd h8 (show ¬ ((degL a) < 0) by first | omega | assumption | simp_all)⟩
          refine ⟨fun h9 => absurd h9 (show ¬ ((degL b) < 0) by first | omega | assumption | simp_all), fun h9 => ?_⟩
          refine ⟨⟨by show a.length ≤ 100000; first | omega | assumption, by show b.length ≤ 100000; first | omega | assumption⟩, fun h10 => absurd h10 (show ¬ ((degL b) < 0) by first | omega | assumption | simp_all), fun h10 => ?_⟩
          refine ⟨⟨by show (dmQ a b).length ≤ 100000; first | omega | assumption, by show b.length ≤ 100000; first | omega | assumption⟩, trivial, fun h11 => ?_, fun h11 => absurd (show True by first | trivial | rfl | exact hdE0 (by omega) | exact hdE1 (by omega) | exact hmE (by omega) | exact hrem (by omega) | exact hsum (by omega) | exact fun h => h hE | exact fun h => h hA | exact fun h => h hV | exact fun h => h (hD (by omega) (by omega)) | exact fun h => h (hD0 (by omega))) h11⟩
          refine ⟨fun h12 => ?_, fun h12 => absurd (show (dmE a b) = 0 by first | trivial | rfl | exact hdE0 (by omega) | exact hdE1 (by omega) | exact hmE (by omega) | exact hrem (by omega) | exact hsum (by omega) | exact fun h => h hE | exact fun h => h hA | exact fun h => h hV | exact fun h => h (hD (by omega) (by omega)) | exact fun h => h (hD0 (by omega))) h12⟩
          refine ⟨fun h13 => ?_, fun h13 => absurd (show (mulPE (dmQ a b) b) = 0 by first | trivial | rfl | exact hdE0 (by omega) | exact hdE1 (by omega) | exact hmE (by omega) | exact hrem (by omega) | exact hsum (by omega) | exact fun h => h hE | exact fun h => h hA | exact fun h => h hV | exact fun h => h (hD (by omega) (by omega)) | exact fun h => h (hD0 (by omega))) h13⟩
          refine ⟨⟨by show (mulPL (dmQ a b) b).length ≤ 1000000; first | omega | assumption, by show (dmR a b).length ≤ 1000000; first | omega | assumption⟩, by show a.length ≤ 1000000; first | omega | assumption, ⟨by show (sumL [(mulPL (dmQ a b) b), (dmR a b)]).length ≤ 1000000; first | omega | assumption | (simp only [List.length_cons, List.length_nil, List.length_append, List.length_take, List.length_drop, List.length_set, List.length_replicate]; omega), by show (trimL a).length ≤ 1000000; first | omega | assumption⟩, fun h14 => ?_, fun h14 => absurd (show (sumL [(mulPL (dmQ a b) b), (dmR a b)]) = (trimL a) by first | trivial | rfl | exact hdE0 (by omega) | exact hdE1 (by omega) | exact hmE (by omega) | exact hrem (by omega) | exact hsum (by omega) | exact fun h => h hE | exact fun h => h hA | exact fun h => h hV | exact fun h => h (hD (by omega) (by omega)) | exact fun h => h (hD0 (by omega))) h14⟩
          refine ⟨by show (dmR a b).length ≤ 1000000; first | omega | assumption, ?_⟩
          exact ⟨rfl, rfl, congrArg V.b (propext ⟨fun _ => trivial, fun _ => (show (degL (dmR a b)) < (degL b) by first | trivial | rfl | exact hdE0 (by omega) | exact hdE1 (by omega) | exact hmE (by omega) | exact hrem (by omega) | exact hsum (by omega) | exact fun h => h hE | exact fun h => h hA | exact fun h => h hV | exact fun h => h (hD (by omega) (by omega)) | exact fun h => h (hD0 (by omega)))⟩), rfl⟩
        · replace h6 : ¬ (0 ≤ (degL b)) := h6
          refine ⟨fun h15 => ?_, fun h15 => absurd h15 (show ¬ ((degL a) < 0) by first | omega | assumption | simp_all)⟩
          refine ⟨fun h16 => ?_, fun h16 => ?_⟩
          · replace h16 : (degL b) < 0 := h16
            refine ⟨by show (mulPL a b).length ≤ 1000000; first | omega | assumption, fun h17 => absurd h17 (show ¬ ((degL (mulPL a b)) ≠ (-1)) by first | trivial | rfl | exact hdE0 (by omega) | exact hdE1 (by omega) | exact hmE (by omega) | exact hrem (by omega) | exact hsum (by omega) | exact fun h => h hE | exact fun h => h hA | exact fun h => h hV | exact fun h => h (hD (by omega) (by omega)) | exact fun h => h (hD0 (by omega))), fun h17 => ?_⟩
            refine ⟨⟨by show a.length ≤ 100000; first | omega | assumption, by show b.length ≤ 100000; first | omega | assumption⟩, fun h18 => ?_, fun h18 => absurd (show (degL b) < 0 by first | omega | assumption | simp_all) h18⟩
            refine ⟨trivial, fun h19 => ?_, fun h19 => absurd (show True by first | trivial | rfl | exact hdE0 (by omega) | exact hdE1 (by omega) | exact hmE (by omega) | exact hrem (by omega) | exact hsum (by omega) | exact fun h => h hE | exact fun h => h hA | exact fun h => h hV | exact fun h => h (hD (by omega) (by omega)) | exact fun h => h (hD0 (by omega))) h19⟩
            exact ⟨rfl, rfl, congrArg V.b (propext ⟨fun _ => trivial, fun _ => (show (dmE a b) = 1 by first | trivial | rfl | exact hdE0 (by omega) | exact hdE1 (by omega) | exact hmE (by omega) | exact hrem (by omega) | exact hsum (by omega) | exact fun h => h hE | exact fun h => h hA | exact fun h => h hV | exact fun h => h (hD (by omega) (by omega)) | exact fun h => h (hD0 (by omega)))⟩), rfl⟩
          · replace h16 : ¬ ((degL b) < 0) := h16
            refine ⟨⟨by show a.length ≤ 100000; first | omega | assumption, by show b.length ≤ 100000; first | omega | assumption⟩, fun h20 => ?_, fun h20 => ?_⟩
            · replace h20 : (degL b) < 0 := h20
              refine ⟨trivial, fun h21 => ?_, fun h21 => absurd (show True by first | trivial | rfl | exact hdE0 (by omega) | exact hdE1 (by omega) | exact hmE (by omega) | exact hrem (by omega) | exact hsum (by omega) | exact fun h => h hE | exact fun h => h hA | exact fun h => h hV | exact fun h => h (hD (by omega) (by omega)) | exact fun h => h (hD0 (by omega))) h21⟩
              exact ⟨rfl, rfl, congrArg V.b (propext ⟨fun _ => trivial, fun _ => (show (dmE a b) = 1 by first | trivial | rfl | exact hdE0 (by omega) | exact hdE1 (by omega) | exact hmE (by omega) | exact hrem (by omega) | exact hsum (by omega) | exact fun h => h hE | exact fun h => h hA | exact fun h => h hV | exact fun h => h (hD (by omega) (by omega)) | exact fun h => h (hD0 (by omega)))⟩), rfl⟩
            · replace h20 : ¬ ((degL b) < 0) := h20
              refine ⟨⟨by show (dmQ a b).length ≤ 100000; first | omega | assumption, by show b.length ≤ 100000; first | omega | assumption⟩, trivial, fun h22 => ?_, fun h22 => absurd (show True by first | trivial | rfl | exact hdE0 (by omega) | exact hdE1 (by omega) | exact hmE (by omega) | exact hrem (by omega) | exact hsum (by omega) | exact fun h => h hE | exact fun h => h hA | exact fun h => h hV | exact fun h => h (hD (by omega) (by omega)) | exact fun h => h (hD0 (by omega))) h22⟩
              refine ⟨fun h23 => ?_, fun h23 => absurd (show (dmE a b) = 0 by first | trivial | rfl | exact hdE0 (by omega) | exact hdE1 (by omega) | exact hmE (by omega) | exact hrem (by omega) | exact hsum (by omega) | exact fun h => h hE | exact fun h => h hA | exact fun h => h hV | exact fun h => h (hD (by omega) (by omega)) | exact fun h => h (hD0 (by omega))) h23⟩
              refine ⟨fun h24 => ?_, fun h24 => absurd (show (mulPE (dmQ a b) b) = 0 by first | trivial | rfl | exact hdE0 (by omega) | exact hdE1 (by omega) | exact hmE (by omega) | exact hrem (by omega) | exact hsum (by omega) | exact fun h => h hE | exact fun h => h hA | exact fun h => h hV | exact fun h => h (hD (by omega) (by omega)) | exact fun h => h (hD0 (by omega))) h24⟩
              refine ⟨⟨by show (mulPL (dmQ a b) b).length ≤ 1000000; first | omega | assumption, by show (dmR a b).length ≤ 1000000; first | omega | assumption⟩, by show a.length ≤ 1000000; first | omega | assumption, ⟨by show (sumL [(mulPL (dmQ a b) b), (dmR a b)]).length ≤ 1000000; first | omega | assumption | (simp only [List.length_cons, List.length_nil, List.length_append, List.length_take, List.length_drop, List.length_set, List.length_replicate]; omega), by show (trimL a).length ≤ 1000000; first | omega | assumption⟩, fun h25 => ?_, fun h25 => absurd (show (sumL [(mulPL (dmQ a b) b), (dmR a b)]) = (trimL a) by first | trivial | rfl | exact hdE0 (by omega) | exact hdE1 (by omega) | exact hmE (by omega) | exact hrem (by omega) | exact hsum (by omega) | exact fun h => h hE | exact fun h => h hA | exact fun h => h hV | exact fun h => h (hD (by omega) (by omega)) | exact fun h => h (hD0 (by omega))) h25⟩
              refine ⟨by show (dmR a b).length ≤ 1000000; first | omega | assumption, ?_⟩
              exact ⟨rfl, rfl, congrArg V.b (propext ⟨fun _ => trivial, fun _ => (show (degL (dmR a b)) < (degL b) by first | trivial | rfl | exact hdE0 (by omega) | exact hdE1 (by omega) | exact hmE (by omega) | exact hrem (by omega) | exact hsum (by omega) | exact fun h => h hE | exact fun h => h hA | exact fun h => h hV | exact fun h => h (hD (by omega) (by omega)) | exact fun h => h (hD0 (by omega)))⟩), rfl⟩
      · replace h5 : ¬ (0 ≤ (degL a)) := h5
        refine ⟨fun h26 => ?_, fun h26 => ?_⟩
        · replace h26 : ¬ ((degL a) < 0) := h26
          refine ⟨fun h27 => ?_, fun h27 => ?_⟩
          · replace h27 : (degL b) < 0 := h27
            refine ⟨by show (mulPL a b).length ≤ 1000000; first | omega | assumption, fun h28 => absurd h28 (show ¬ ((degL (mulPL a b)) ≠ (-1)) by first | trivial | rfl | exact hdE0 (by omega) | exact hdE1 (by omega) | exact hmE (by omega) | exact hrem (by omega) | exact hsum (by omega) | exact fun h => h hE | exact fun h => h hA | exact fun h => h hV | exact fun h => h (hD (by omega) (by omega)) | exact fun h => h (hD0 (by omega))), fun h28 => ?_⟩
            refine ⟨⟨by show a.length ≤ 100000; first | omega | assumption, by show b.length ≤ 100000; first | omega | assumption⟩, fun h29 => ?_, fun h29 => absurd (show (degL b) < 0 by first | omega | assumption | simp_all) h29⟩
            refine ⟨trivial, fun h30 => ?_, fun h30 => absurd (show True by first | trivial | rfl | exact hdE0 (by omega) | exact hdE1 (by omega) | exact hmE (by omega) | exact hrem (by omega) | exact hsum (by omega) | exact fun h => h hE | exact fun h => h hA | exact fun h => h hV | exact fun h => h (hD (by omega) (by omega)) | exact fun h => h (hD0 (by omega))) h30⟩
            exact ⟨rfl, rfl, congrArg V.b (propext ⟨fun _ => trivial, fun _ => (show (dmE a b) = 1 by first | trivial | rfl | exact hdE0 (by omega) | exact hdE1 (by omega) | exact hmE (by omega) | exact hrem (by omega) | exact hsum (by omega) | exact fun h => h hE | exact fun h => h hA | exact fun h => h hV | exact fun h => h (hD (by omega) (by omega)) | exact fun h => h (hD0 (by omega)))⟩), rfl⟩
          · replace h27 : ¬ ((degL b) < 0) := h27
            refine ⟨⟨by show a.length ≤ 100000; first | omega | assumption, by show b.length ≤ 100000; first | omega | assumption⟩, fun h31 => ?_, fun h31 => ?_⟩
            · replace h31 : (degL b) < 0 := h31
              refine ⟨trivial, fun h32 => ?_, fun h32 => absurd (show True by first | trivial | rfl | exact hdE0 (by omega) | exact hdE1 (by omega) | exact hmE (by omega) | exact hrem (by omega) | exact hsum (by omega) | exact fun h => h hE | exact fun h => h hA | exact fun h => h hV | exact fun h => h (hD (by omega) (by omega)) | exact fun h => h (hD0 (by omega))) h32⟩
              exact ⟨rfl, rfl, congrArg V.b (propext ⟨fun _ => trivial, fun _ => (show (dmE a b) = 1 by first | trivial | rfl | exact hdE0 (by omega) | exact hdE1 (by omega) | exact hmE (by omega) | exact hrem (by omega) | exact hsum (by omega) | exact fun h => h hE | exact fun h => h hA | exact fun h => h hV | exact fun h => h (hD (by omega) (by omega)) | exact fun h => h (hD0 (by omega)))⟩), rfl⟩
            · replace h31 : ¬ ((degL b) < 0) := h31
              refine ⟨⟨by show (dmQ a b).length ≤ 100000; first | omega | assumption, by show b.length ≤ 100000; first | omega | assumption⟩, trivial, fun h33 => ?_, fun h33 => absurd (show True by first | trivial | rfl | exact hdE0 (by omega) | exact hdE1 (by omega) | exact hmE (by omega) | exact hrem (by omega) | exact hsum (by omega) | exact fun h => h hE | exact fun h => h hA | exact fun h => h hV | exact fun h => h (hD (by omega) (by omega)) | exact fun h => h (hD0 (by omega))) h33⟩
              refine ⟨fun h34 => ?_, fun h34 => absurd (show (dmE a b) = 0 by first | trivial | rfl | exact hdE0 (by omega) | exact hdE1 (by omega) | exact hmE (by omega) | exact hrem (by omega) | exact hsum (by omega) | exact fun h => h hE | exact fun h => h hA | exact fun h => h hV | exact fun h => h (hD (by omega) (by omega)) | exact fun h => h (hD0 (by omega))) h34⟩
              refine ⟨fun h35 => ?_, fun h35 => absurd (show (mulPE (dmQ a b) b) = 0 by first | trivial | rfl | exact hdE0 (by omega) | exact hdE1 (by omega) | exact hmE (by omega) | exact hrem (by omega) | exact hsum (by omega) | exact fun h => h hE | exact fun h => h hA | exact fun h => h hV | exact fun h => h (hD (by omega) (by omega)) | exact fun h => h (hD0 (by omega))) h35⟩
              refine ⟨⟨by show (mulPL (dmQ a b) b).length ≤ 1000000; first | omega | assumption, by show (dmR a b).length ≤ 1000000; first | omega | assumption⟩, by show a.length ≤ 1000000; first | omega | assumption, ⟨by show (sumL [(mulPL (dmQ a b) b), (dmR a b)]).length ≤ 1000000; first | omega | assumption | (simp only [List.length_cons, List.length_nil, List.length_append, List.length_take, List.length_drop, List.length_set, List.length_replicate]; omega), by show (trimL a).length ≤ 1000000; first | omega | assumption⟩, fun h36 => ?_, fun h36 => absurd (show (sumL [(mulPL (dmQ a b) b), (dmR a b)]) = (trimL a) by first | trivial | rfl | exact hdE0 (by omega) | exact hdE1 (by omega) | exact hmE (by omega) | exact hrem (by omega) | exact hsum (by omega) | exact fun h => h hE | exact fun h => h hA | exact fun h => h hV | exact fun h => h (hD (by omega) (by omega)) | exact fun h => h (hD0 (by omega))) h36⟩
              refine ⟨by show (dmR a b).length ≤ 1000000; first | omega | assumption, ?_⟩
              exact ⟨rfl, rfl, congrArg V.b (propext ⟨fun _ => trivial, fun _ => (show (degL (dmR a b)) < (degL b) by first | trivial | rfl | exact hdE0 (by omega) | exact hdE1 (by omega) | exact hmE (by omega) | exact hrem (by omega) | exact hsum (by omega) | exact fun h => h hE | exact fun h => h hA | exact fun h => h hV | exact fun h => h (hD (by omega) (by omega)) | exact fun h => h (hD0 (by omega)))⟩), rfl⟩
        · replace h26 : (degL a) < 0 := h26
          refine ⟨by show (mulPL a b).length ≤ 1000000; first | omega | assumption, fun h37 => absurd h37 (show ¬ ((degL (mulPL a b)) ≠ (-1)) by first | trivial | rfl | exact hdE0 (by omega) | exact hdE1 (by omega) | exact hmE (by omega) | exact hrem (by omega) | exact hsum (by omega) | exact fun h => h hE | exact fun h => h hA | exact fun h => h hV | exact fun h => h (hD (by omega) (by omega)) | exact fun h => h (hD0 (by omega))), fun h37 => ?_⟩
          refine ⟨⟨by show a.length ≤ 100000; first | omega | assumption, by show b.length ≤ 100000; first | omega | assumption⟩, fun h38 => ?_, fun h38 => ?_⟩
          · replace h38 : (degL b) < 0 := h38
            refine ⟨trivial, fun h39 => ?_, fun h39 => absurd (show True by first | trivial | rfl | exact hdE0 (by omega) | exact hdE1 (by omega) | exact hmE (by omega) | exact hrem (by omega) | exact hsum (by omega) | exact fun h => h hE | exact fun h => h hA | exact fun h => h hV | exact fun h => h (hD (by omega) (by omega)) | exact fun h => h (hD0 (by omega))) h39⟩
            exact ⟨rfl, rfl, congrArg V.b (propext ⟨fun _ => trivial, fun _ => (show (dmE a b) = 1 by first | trivial | rfl | exact hdE0 (by omega) | exact hdE1 (by omega) | exact hmE (by omega) | exact hrem (by omega) | exact hsum (by omega) | exact fun h => h hE | exact fun h => h hA | exact fun h => h hV | exact fun h => h (hD (by omega) (by omega)) | exact fun h => h (hD0 (by omega)))⟩), rfl⟩
          · replace h38 : ¬ ((degL b) < 0) := h38
            refine ⟨⟨by show (dmQ a b).length ≤ 100000; first | omega | assumption, by show b.length ≤ 100000; first | omega | assumption⟩, trivial, fun h40 => ?_, fun h40 => absurd (show True by first | trivial | rfl | exact hdE0 (by omega) | exact hdE1 (by omega) | exact hmE (by omega) | exact hrem (by omega) | exact hsum (by omega) | exact fun h => h hE | exact fun h => h hA | exact fun h => h hV | exact fun h => h (hD (by omega) (by omega)) | exact fun h => h (hD0 (by omega))) h40⟩
            refine ⟨fun h41 => ?_, fun h41 => absurd (show (dmE a b) = 0 by first | trivial | rfl | exact hdE0 (by omega) | exact hdE1 (by omega) | exact hmE (by omega) | exact hrem (by omega) | exact hsum (by omega) | exact fun h => h hE | exact fun h => h hA | exact fun h => h hV | exact fun h => h (hD (by omega) (by omega)) | exact fun h => h (hD0 (by omega))) h41⟩
            refine ⟨fun h42 => ?_, fun h42 => absurd (show (mulPE (dmQ a b) b) = 0 by first | trivial | rfl | exact hdE0 (by omega) | exact hdE1 (by omega) | exact hmE (by omega) | exact hrem (by omega) | exact hsum (by omega) | exact fun h => h hE | exact fun h => h hA | exact fun h => h hV | exact fun h => h (hD (by omega) (by omega)) | exact fun h => h (hD0 (by omega))) h42⟩
            refine ⟨⟨by show (mulPL (dmQ a b) b).length ≤ 1000000; first | omega | assumption, by show (dmR a b).length ≤ 1000000; first | omega | assumption⟩, by show a.length ≤ 1000000; first | omega | assumption, ⟨by show (sumL [(mulPL (dmQ a b) b), (dmR a b)]).length ≤ 1000000; first | omega | assumption | (simp only [List.length_cons, List.length_nil, List.length_append, List.length_take, List.length_drop, List.length_set, List.length_replicate]; omega), by show (trimL a).length ≤ 1000000; first | omega | assumption⟩, fun h43 => ?_, fun h43 => absurd (show (sumL [(mulPL (dmQ a b) b), (dmR a b)]) = (trimL a) by first | trivial | rfl | exact hdE0 (by omega) | exact hdE1 (by omega) | exact hmE (by omega) | exact hrem (by omega) | exact hsum (by omega) | exact fun h => h hE | exact fun h => h hA | exact fun h => h hV | exact fun h => h (hD (by omega) (by omega)) | exact fun h => h (hD0 (by omega))) h43⟩
            refine ⟨by show (dmR a b).length ≤ 1000000; first | omega | assumption, ?_⟩
            exact ⟨rfl, rfl, congrArg V.b (propext ⟨fun _ => trivial, fun _ => (show (degL (dmR a b)) < (degL b) by first | trivial | rfl | exact hdE0 (by omega) | exact hdE1 (by omega) | exact hmE (by omega) | exact hrem (by omega) | exact hsum (by omega) | exact fun h => h hE | exact fun h => h hA | exact fun h => h hV | exact fun h => h (hD (by omega) (by omega)) | exact fun h => h (hD0 (by omega)))⟩), rfl⟩
  · replace h0 : 40 < (a.length : Int) := h0
    refine ⟨trivial, ?_⟩
    exact ⟨rfl, rfl, congrArg V.b (propext ⟨fun _ => trivial, fun _ => (show True by first | trivial | rfl | exact hdE0 (by omega) | exact hdE1 (by omega) | exact hmE (by omega) | exact hrem (by omega) | exact hsum (by omega) | exact fun h => h hE | exact fun h => h hA | exact fun h => h hV | exact fun h => h (hD (by omega) (by omega)) | exact fun h => h (hD0 (by omega)))⟩), rfl⟩
end Go.Proofs.YtifaanbnijnbdaaDoor.S6

namespace Go.Proofs.YtifaanbnijnbdaaDoor.S6
open Go Go.Proofs.YtifaanbnijnbdaaDoor.Vc Go.Proofs
set_option maxRecDepth 100000
set_option linter.unusedVariables false

theorem rdD_ok (a b : List UInt8) (hb : trimL b ≠ []) : trimL (divR a b).1 = trimL (rdD a b).1 ∧ trimL (divR a b).2 = trimL (rdD a b).2 := by
  have h1 := div_ok a b hb
  have hl := sz_len a
  have h2 := div_any a b a (a.length + 1 - sz b) (a.length + 1) hb (fun _ => rfl) (by omega) (fun h => by omega) (by omega)
  exact div_unique b _ _ _ _ hb (fun n => (h1.1 n).trans (h2.1 n).symm) h1.2 h2.2
theorem dmQ_same (a b : List UInt8) : dmQ a b = rdQ a b := by
  unfold dmQ rdQ
  split
  · rfl
  · split
    · rfl
    · exact (rdD_ok a b (by assumption)).1
theorem dmR_same (a b : List UInt8) : dmR a b = rdR a b := by
  unfold dmR rdR
  split
  · rfl
  · split
    · rfl
    · exact (rdD_ok a b (by assumption)).2
theorem divR_len2 (a b : List UInt8) : (trimL (divR a b).2).length ≤ a.length := by
  unfold divR
  refine Nat.le_trans (trimL_len _) ?_
  rw [(divA_len _ _ _ _ _).2]
  exact trimL_len a
theorem dmQ_len (a b : List UInt8) : (dmQ a b).length ≤ a.length + 1 := by
  unfold dmQ
  split
  · exact Nat.zero_le _
  · split
    · exact Nat.zero_le _
    · exact divQ_len a b
theorem dmR_len (a b : List UInt8) : (dmR a b).length ≤ a.length := by
  unfold dmR
  split
  · exact Nat.zero_le _
  · split
    · exact Nat.zero_le _
    · exact divR_len2 a b
def sLMatch : List V → Option (Prop × V × List Blk)
  | [.sl false .u8 a, .sl false .u8 b, .u8 x] => some (a.length ≤ 1048576 ∧ b.length ≤ 1048576, .b True, [])
  | _ => none
set_option maxHeartbeats 4000000 in
theorem bLMatch (a : List UInt8) (b : List UInt8) (x : UInt8) (hp0 : a.length ≤ 1048576) (hp1 : b.length ≤ 1048576) : bodyP ⟨CSanity, tys, G6⟩ Tryd.f8 [.k] [.sl false .u8 a, .sl false .u8 b, .u8 x] (.b True) [] := by
  refine ⟨fun h0 => ?_, fun h0 => ?_⟩
  · replace h0 : ¬ (300 < (a.length : Int)) := h0
    refine ⟨fun h1 => ?_, fun h1 => ?_⟩
    · replace h1 : 300 < (b.length : Int) := h1
      refine ⟨trivial, ?_⟩
      exact ⟨rfl, rfl, congrArg V.b (propext ⟨fun _ => trivial, fun _ => (show True by first | trivial | rfl | exact fun h => h rfl | exact hE0 (by omega) (by omega) | exact hE2 (by omega) | exact hD2 (by omega) | exact hZ (by omega) | exact hM (by omega) (by omega) | exact dmQ_same a b | exact dmR_same a b)⟩), rfl⟩
    · replace h1 : ¬ (300 < (b.length : Int)) := h1
      have ha : a.length ≤ 300 := by omega
      have hb : b.length ≤ 300 := by omega
      have hls : (sumL [a, b]).length ≤ 300 := sumL_two_len _ _ _ ha hb
      have hta := trimL_len a
      have hl : (256 < (a.length : Int) ∨ 256 < (b.length : Int)) → longB a b = true := fun h => by
        simp only [longB, Bool.or_eq_true, decide_eq_true_eq]; omega
      have hs : (a.length : Int) ≤ 256 → (b.length : Int) ≤ 256 → ¬ longB a b = true := fun h1 h2 => by
        simp only [longB, Bool.or_eq_true, decide_eq_true_eq]; omega
      have hE0 : (a.length : Int) ≤ 256 → (b.length : Int) ≤ 256 → mulPE a b = 0 := fun h1 h2 => if_neg (hs h1 h2)
      have hM : (a.length : Int) ≤ 256 → (b.length : Int) ≤ 256 → mulPL a b = prodL a b := fun h1 h2 => if_neg (hs h1 h2)
      have hE2 : (256 < (a.length : Int) ∨ 256 < (b.length : Int)) → mulPE a b = 2 := fun h => if_pos (hl h)
      have hD2 : (256 < (a.length : Int) ∨ 256 < (b.length : Int)) → dmE a b = 2 := fun h => if_pos (hl h)
      have hlm := prodL_len a b
      have hlM : (mulPL a b).length ≤ 600 := by
        unfold mulPL
        split
        · exact Nat.zero_le _
        · omega
      have hlq := dmQ_len a b
      have hlr := dmR_len a b
      have hlq2 : (rdQ a b).length ≤ 301 := by rw [← dmQ_same]; omega
      have hlr2 : (rdR a b).length ≤ 300 := by rw [← dmR_same]; omega
      have hZ : (256 < (a.length : Int) ∨ 256 < (b.length : Int)) → ((mulPL a b).length : Int) + (dmQ a b).length + (dmR a b).length = 0 := fun h => by
        rw [show mulPL a b = [] from if_pos (hl h), show dmQ a b = [] from if_pos (hl h), show dmR a b = [] from if_pos (hl h)]
        rfl
      refine ⟨by show a.length ≤ 1000000; first | omega | assumption, by show a.length ≤ 1000000; first | omega | assumption, fun h2 => ?_, fun h2 => absurd h2 (show ¬ ((horner x a) ≠ (horner x a)) by first | trivial | rfl | exact fun h => h rfl | exact hE0 (by omega) (by omega) | exact hE2 (by omega) | exact hD2 (by omega) | exact hZ (by omega) | exact hM (by omega) (by omega) | exact dmQ_same a b | exact dmR_same a b)⟩
      refine ⟨by show a.length ≤ 1000000; first | omega | assumption, by show a.length ≤ 1000000; first | omega | assumption, fun h3 => ?_, fun h3 => absurd h3 (show ¬ ((degL a) ≠ (degL a)) by first | trivial | rfl | exact fun h => h rfl | exact hE0 (by omega) (by omega) | exact hE2 (by omega) | exact hD2 (by omega) | exact hZ (by omega) | exact hM (by omega) (by omega) | exact dmQ_same a b | exact dmR_same a b)⟩
      refine ⟨by show a.length ≤ 1000000; first | omega | assumption, by show a.length ≤ 1000000; first | omega | assumption, ⟨by show (trimL a).length ≤ 1000000; first | omega | assumption, by show (trimL a).length ≤ 1000000; first | omega | assumption⟩, fun h4 => ?_, fun h4 => absurd h4 (show ¬ (¬ ((trimL a) = (trimL a))) by first | trivial | rfl | exact fun h => h rfl | exact hE0 (by omega) (by omega) | exact hE2 (by omega) | exact hD2 (by omega) | exact hZ (by omega) | exact hM (by omega) (by omega) | exact dmQ_same a b | exact dmR_same a b)⟩
      refine ⟨⟨by show a.length ≤ 1000000; first | omega | assumption, by show b.length ≤ 1000000; first | omega | assumption⟩, ⟨by show a.length ≤ 1000000; first | omega | assumption, by show b.length ≤ 1000000; first | omega | assumption⟩, ⟨by show (sumL [a, b]).length ≤ 1000000; first | omega | assumption | (simp only [List.length_cons, List.length_nil, List.length_append, List.length_take, List.length_drop, List.length_set, List.length_replicate]; omega), by show (sumL [a, b]).length ≤ 1000000; first | omega | assumption | (simp only [List.length_cons, List.length_nil, List.length_append, List.length_take, List.length_drop, List.length_set, List.length_replicate]; omega)⟩, fun h5 => absurd h5 (show ¬ (¬ ((sumL [a, b]) = (sumL [a, b]))) by first | trivial | rfl | exact fun h => h rfl | exact hE0 (by omega) (by omega) | exact hE2 (by omega) | exact hD2 (by omega) | exact hZ (by omega) | exact hM (by omega) (by omega) | exact dmQ_same a b | exact dmR_same a b), fun h5 => ?_⟩
      refine ⟨fun h6 => ?_, fun h6 => ?_⟩
      · replace h6 : ¬ (256 < (a.length : Int)) := h6
        refine ⟨fun h7 => ?_, fun h7 => ?_⟩
        · replace h7 : ¬ (256 < (b.length : Int)) := h7
          refine ⟨fun h8 => ?_, fun h8 => ?_⟩
          · replace h8 : ¬ (60 < (a.length : Int)) := h8
            refine ⟨fun h9 => ?_, fun h9 => ?_⟩
            · replace h9 : 60 < (b.length : Int) := h9
              refine ⟨trivial, ?_⟩
              exact ⟨rfl, rfl, congrArg V.b (propext ⟨fun _ => trivial, fun _ => (show True by first | trivial | rfl | exact fun h => h rfl | exact hE0 (by omega) (by omega) | exact hE2 (by omega) | exact hD2 (by omega) | exact hZ (by omega) | exact hM (by omega) (by omega) | exact dmQ_same a b | exact dmR_same a b)⟩), rfl⟩
            · replace h9 : ¬ (60 < (b.length : Int)) := h9
              refine ⟨⟨by show a.length ≤ 100000; first | omega | assumption, by show b.length ≤ 100000; first | omega | assumption⟩, ⟨by show a.length ≤ 100000; first | omega | assumption, by show b.length ≤ 100000; first | omega | assumption⟩, fun h10 => absurd h10 (show ¬ (256 < (b.length : Int)) by first | omega | assumption | simp_all), fun h10 => ?_⟩
              refine ⟨⟨by show a.length ≤ 100000; first | omega | assumption, by show b.length ≤ 100000; first | omega | assumption⟩, ⟨rfl, rfl, rfl, Nat.le_of_ble_eq_true rfl⟩, trivial, fun h11 => ?_, fun h11 => absurd (show True by first | trivial | rfl | exact fun h => h rfl | exact hE0 (by omega) (by omega) | exact hE2 (by omega) | exact hD2 (by omega) | exact hZ (by omega) | exact hM (by omega) (by omega) | exact dmQ_same a b | exact dmR_same a b) h11⟩
              refine ⟨fun h12 => ?_, fun h12 => absurd (show (mulPE a b) = 0 by first | trivial | rfl | exact fun h => h rfl | exact hE0 (by omega) (by omega) | exact hE2 (by omega) | exact hD2 (by omega) | exact hZ (by omega) | exact hM (by omega) (by omega) | exact dmQ_same a b | exact dmR_same a b) h12⟩
              refine ⟨⟨by show a.length ≤ 100000; first | omega | assumption, by show b.length ≤ 100000; first | omega | assumption⟩, ⟨by show (mulPL a b).length ≤ 1000000; first | omega | assumption, by show (prodL a b).length ≤ 1000000; first | omega | assumption⟩, fun h13 => ?_, fun h13 => absurd (show (mulPL a b) = (prodL a b) by first | trivial | rfl | exact fun h => h rfl | exact hE0 (by omega) (by omega) | exact hE2 (by omega) | exact hD2 (by omega) | exact hZ (by omega) | exact hM (by omega) (by omega) | exact dmQ_same a b | exact dmR_same a b) h13⟩
              refine ⟨fun h14 => ?_, fun h14 => absurd (show (dmE a b) = (dmE a b) by first | trivial | rfl | exact fun h => h rfl | exact hE0 (by omega) (by omega) | exact hE2 (by omega) | exact hD2 (by omega) | exact hZ (by omega) | exact hM (by omega) (by omega) | exact dmQ_same a b | exact dmR_same a b) h14⟩
              refine ⟨⟨by show (dmQ a b).length ≤ 1000000; first | omega | assumption, by show (rdQ a b).length ≤ 1000000; first | omega | assumption⟩, fun h15 => ?_, fun h15 => absurd (show (dmQ a b) = (rdQ a b) by first | trivial | rfl | exact fun h => h rfl | exact hE0 (by omega) (by omega) | exact hE2 (by omega) | exact hD2 (by omega) | exact hZ (by omega) | exact hM (by omega) (by omega) | exact dmQ_same a b | exact dmR_same a b) h15⟩
              refine ⟨⟨by show (dmR a b).length ≤ 1000000; first | omega | assumption, by show (rdR a b).length ≤ 1000000; first | omega | assumption⟩, ?_⟩
              exact ⟨rfl, rfl, congrArg V.b (propext ⟨fun _ => trivial, fun _ => (show (dmR a b) = (rdR a b) by first | trivial | rfl | exact fun h => h rfl | exact hE0 (by omega) (by omega) | exact hE2 (by omega) | exact hD2 (by omega) | exact hZ (by omega) | exact hM (by omega) (by omega) | exact dmQ_same a b | exact dmR_same a b)⟩), rfl⟩
          · replace h8 : 60 < (a.length : Int) := h8
            refine ⟨trivial, ?_⟩
            exact ⟨rfl, rfl, congrArg V.b (propext ⟨fun _ => trivial, fun _ => (show True by first | trivial | rfl | exact fun h => h rfl | exact hE0 (by omega) (by omega) | exact hE2 (by omega) | exact hD2 (by omega) | exact hZ (by omega) | exact hM (by omega) (by omega) | exact dmQ_same a b | exact dmR_same a b)⟩), rfl⟩
        · replace h7 : ¬ (¬ (256 < (b.length : Int))) := h7
          refine ⟨⟨by show a.length ≤ 100000; first | omega | assumption, by show b.length ≤ 100000; first | omega | assumption⟩, ⟨by show a.length ≤ 100000; first | omega | assumption, by show b.length ≤ 100000; first | omega | assumption⟩, fun h16 => ?_, fun h16 => ?_⟩
          · replace h16 : 256 < (b.length : Int) := h16
            refine ⟨trivial, fun h17 => ?_, fun h17 => absurd (show True by first | trivial | rfl | exact fun h => h rfl | exact hE0 (by omega) (by omega) | exact hE2 (by omega) | exact hD2 (by omega) | exact hZ (by omega) | exact hM (by omega) (by omega) | exact dmQ_same a b | exact dmR_same a b) h17⟩
            refine ⟨fun h18 => ?_, fun h18 => absurd (show (mulPE a b) = 2 by first | trivial | rfl | exact fun h => h rfl | exact hE0 (by omega) (by omega) | exact hE2 (by omega) | exact hD2 (by omega) | exact hZ (by omega) | exact hM (by omega) (by omega) | exact dmQ_same a b | exact dmR_same a b) h18⟩
            refine ⟨fun h19 => ?_, fun h19 => absurd (show (dmE a b) = 2 by first | trivial | rfl | exact fun h => h rfl | exact hE0 (by omega) (by omega) | exact hE2 (by omega) | exact hD2 (by omega) | exact hZ (by omega) | exact hM (by omega) (by omega) | exact dmQ_same a b | exact dmR_same a b) h19⟩
            refine ⟨⟨by omega, by omega⟩, ⟨by omega, by omega⟩, ?_⟩
            exact ⟨rfl, rfl, congrArg V.b (propext ⟨fun _ => trivial, fun _ => (show (((((mulPL a b).length : Nat) : Int) + (((dmQ a b).length : Nat) : Int)) + (((dmR a b).length : Nat) : Int)) = 0 by first | trivial | rfl | exact fun h => h rfl | exact hE0 (by omega) (by omega) | exact hE2 (by omega) | exact hD2 (by omega) | exact hZ (by omega) | exact hM (by omega) (by omega) | exact dmQ_same a b | exact dmR_same a b)⟩), rfl⟩
          · replace h16 : ¬ (256 < (b.length : Int)) := h16
            refine ⟨⟨by show a.length ≤ 100000; first | omega | assumption, by show b.length ≤ 100000; first | omega | assumption⟩, ⟨rfl, rfl, rfl, Nat.le_of_ble_eq_true rfl⟩, trivial, fun h20 => ?_, fun h20 => absurd (show True by first | trivial | rfl | exact fun h => h rfl | exact hE0 (by omega) (by omega) | exact hE2 (by omega) | exact hD2 (by omega) | exact hZ (by omega) | exact hM (by omega) (by omega) | exact dmQ_same a b | exact dmR_same a b) h20⟩
            refine ⟨fun h21 => ?_, fun h21 => absurd (show (mulPE a b) = 0 by first | trivial | rfl | exact fun h => h rfl | exact hE0 (by omega) (by omega) | exact hE2 (by omega) | exact hD2 (by omega) | exact hZ (by omega) | exact hM (by omega) (by omega) | exact dmQ_same a b | exact dmR_same a b) h21⟩
            refine ⟨⟨by show a.length ≤ 100000; first | omega | assumption, by show b.length ≤ 100000; first | omega | assumption⟩, ⟨by show (mulPL a b).length ≤ 1000000; first | omega | assumption, by show (prodL a b).length ≤ 1000000; first | omega | assumption⟩, fun h22 => ?_, fun h22 => absurd (show (mulPL a b) = (prodL a b) by first | trivial | rfl | exact fun h => h rfl | exact hE0 (by omega) (by omega) | exact hE2 (by omega) | exact hD2 (by omega) | exact hZ (by omega) | exact hM (by omega) (by omega) | exact dmQ_same a b | exact dmR_same a b) h22⟩
            refine ⟨fun h23 => ?_, fun h23 => absurd (show (dmE a b) = (dmE a b) by first | trivial | rfl | exact fun h => h rfl | exact hE0 (by omega) (by omega) | exact hE2 (by omega) | exact hD2 (by omega) | exact hZ (by omega) | exact hM (by omega) (by omega) | exact dmQ_same a b | exact dmR_same a b) h23⟩
            refine ⟨⟨by show (dmQ a b).length ≤ 1000000; first | omega | assumption, by show (rdQ a b).length ≤ 1000000; first | omega | assumption⟩, fun h24 => ?_, fun h24 => absurd (show (dmQ a b) = (rdQ a b) by first | trivial | rfl | exact fun h => h rfl | exact hE0 (by omega) (by omega) | exact hE2 (by omega) | exact hD2 (by omega) | exact hZ (by omega) | exact hM (by omega) (by omega) | exact dmQ_same a b | exact dmR_same a b) h24⟩
            refine ⟨⟨by show (dmR a b).length ≤ 1000000; first | omega | assumption, by show (rdR a b).length ≤ 1000000; first | omega | assumption⟩, ?_⟩
            exact ⟨rfl, rfl, congrArg V.b (propext ⟨fun _ => trivial, fun _ => (show (dmR a b) = (rdR a b) by first | trivial | rfl | exact fun h => h rfl | exact hE0 (by omega) (by omega) | exact hE2 (by omega) | exact hD2 (by omega) | exact hZ (by omega) | exact hM (by omega) (by omega) | exact dmQ_same a b | exact dmR_same a b)⟩), rfl⟩
      · replace h6 : 256 < (a.length : Int) := h6
        refine ⟨⟨by show a.length ≤ 100000; first | omega | assumption, by show b.length ≤ 100000; first | omega | assumption⟩, ⟨by show a.length ≤ 100000; first | omega | assumption, by show b.length ≤ 100000; first | omega | assumption⟩, trivial, fun h25 => ?_, fun h25 => absurd (show True by first | trivial | rfl | exact fun h => h rfl | exact hE0 (by omega) (by omega) | exact hE2 (by omega) | exact hD2 (by omega) | exact hZ (by omega) | exact hM (by omega) (by omega) | exact dmQ_same a b | exact dmR_same a b) h25⟩
        refine ⟨fun h26 => ?_, fun h26 => absurd (show (mulPE a b) = 2 by first | trivial | rfl | exact fun h => h rfl | exact hE0 (by omega) (by omega) | exact hE2 (by omega) | exact hD2 (by omega) | exact hZ (by omega) | exact hM (by omega) (by omega) | exact dmQ_same a b | exact dmR_same a b) h26⟩
        refine ⟨fun h27 => ?_, fun h27 => absurd (show (dmE a b) = 2 by first | trivial | rfl | exact fun h => h rfl | exact hE0 (by omega) (by omega) | exact hE2 (by omega) | exact hD2 (by omega) | exact hZ (by omega) | exact hM (by omega) (by omega) | exact dmQ_same a b | exact dmR_same a b) h27⟩
        refine ⟨⟨by omega, by omega⟩, ⟨by omega, by omega⟩, ?_⟩
        exact ⟨rfl, rfl, congrArg V.b (propext ⟨fun _ => trivial, fun _ => (show (((((mulPL a b).length : Nat) : Int) + (((dmQ a b).length : Nat) : Int)) + (((dmR a b).length : Nat) : Int)) = 0 by first | trivial | rfl | exact fun h => h rfl | exact hE0 (by omega) (by omega) | exact hE2 (by omega) | exact hD2 (by omega) | exact hZ (by omega) | exact hM (by omega) (by omega) | exact dmQ_same a b | exact dmR_same a b)⟩), rfl⟩
  · replace h0 : 300 < (a.length : Int) := h0
    refine ⟨trivial, ?_⟩
    exact ⟨rfl, rfl, congrArg V.b (propext ⟨fun _ => trivial, fun _ => (show True by first | trivial | rfl | exact fun h => h rfl | exact hE0 (by omega) (by omega) | exact hE2 (by omega) | exact hD2 (by omega) | exact hZ (by omega) | exact hM (by omega) (by omega) | exact dmQ_same a b | exact dmR_same a b)⟩), rfl⟩
end Go.Proofs.YtifaanbnijnbdaaDoor.S6

namespace Go.Proofs.YtifaanbnijnbdaaDoor.S6
open Go Go.Proofs.YtifaanbnijnbdaaDoor.Vc Go.Proofs
set_option maxRecDepth 100000
set_option linter.unusedVariables false

theorem ipL_len (a b : List UInt8) : (ipL a b).1.length ≤ 2 * a.length + 3 := by
  unfold ipL
  split
  · exact thrL_len a b
  · exact Nat.zero_le _
theorem tpL_len (a b : List UInt8) (d : Int) : (tpL a b d).1.length ≤ 2 * a.length + 3 := by
  unfold tpL
  split
  · split
    · exact Nat.zero_le _
    · split
      · exact Nat.zero_le _
      · split
        · exact Nat.zero_le _
        · exact thrL_len a b
  · exact Nat.zero_le _
def sLIpSpec : List V → Option (Prop × V × List Blk)
  | [.sl false .u8 a, .sl false .u8 b, .int .i64 d] => some (a.length ≤ 1048576 ∧ b.length ≤ 1048576, .b True, [])
  | _ => none
set_option maxHeartbeats 4000000 in
theorem bLIpSpec (a : List UInt8) (b : List UInt8) (d : Int) (hp0 : a.length ≤ 1048576) (hp1 : b.length ≤ 1048576) : bodyP ⟨CSanity, tys, G6⟩ Tryd.f3 [.k] [.sl false .u8 a, .sl false .u8 b, .int .i64 d] (.b True) [] := by
  refine ⟨fun h0 => ?_, fun h0 => ?_⟩
  · replace h0 : ¬ (24 < (a.length : Int)) := h0
    refine ⟨fun h1 => ?_, fun h1 => ?_⟩
    · replace h1 : 24 < (b.length : Int) := h1
      refine ⟨trivial, ?_⟩
      exact ⟨rfl, rfl, congrArg V.b (propext ⟨fun _ => trivial, fun _ => (show True by first | trivial | rfl | exact hI2 | exact hI1 | exact hT2 | exact hT1)⟩), rfl⟩
    · replace h1 : ¬ (24 < (b.length : Int)) := h1
      have ha : a.length ≤ 24 := by omega
      have hb : b.length ≤ 24 := by omega
      have hl1 := ipL_len a b
      have hl2 := tpL_len a b d
      have hI1 : (ipL a b).1 = (ripL a b).1 := by rw [ip_same]
      have hI2 : (ipL a b).2 = (ripL a b).2 := by rw [ip_same]
      have hT1 : (tpL a b d).1 = (rtpL a b d).1 := by rw [tp_same]
      have hT2 : (tpL a b d).2 = (rtpL a b d).2 := by rw [tp_same]
      have hl3 : (ripL a b).1.length ≤ 100 := by rw [← ip_same]; omega
      have hl4 : (rtpL a b d).1.length ≤ 100 := by rw [← tp_same]; omega
      have hl5 : (ipL a b).1.length ≤ 100 := by omega
      have hl6 : (tpL a b d).1.length ≤ 100 := by omega
      refine ⟨⟨by show a.length ≤ 10000; first | omega | assumption, by show b.length ≤ 10000; first | omega | assumption⟩, ⟨by show a.length ≤ 10000; first | omega | assumption, by show b.length ≤ 10000; first | omega | assumption⟩, ⟨rfl, rfl, rfl, Nat.le_of_ble_eq_true rfl⟩, rfl, ⟨by show a.length ≤ 10000; first | omega | assumption, by show b.length ≤ 10000; first | omega | assumption⟩, rfl, ⟨by show a.length ≤ 10000; first | omega | assumption, by show b.length ≤ 10000; first | omega | assumption⟩, ⟨rfl, rfl, rfl, Nat.le_of_ble_eq_true rfl⟩, trivial, fun h2 => ?_, fun h2 => absurd (show True by first | trivial | rfl | exact hI2 | exact hI1 | exact hT2 | exact hT1) h2⟩
      refine ⟨fun h3 => ?_, fun h3 => absurd (show ((ipL a b).2) = ((ripL a b).2) by first | trivial | rfl | exact hI2 | exact hI1 | exact hT2 | exact hT1) h3⟩
      refine ⟨⟨by show ((ipL a b).1).length ≤ 1000000; first | omega | assumption, by show ((ripL a b).1).length ≤ 1000000; first | omega | assumption⟩, fun h4 => ?_, fun h4 => absurd (show ((ipL a b).1) = ((ripL a b).1) by first | trivial | rfl | exact hI2 | exact hI1 | exact hT2 | exact hT1) h4⟩
      refine ⟨fun h5 => ?_, fun h5 => absurd (show ((tpL a b d).2) = ((rtpL a b d).2) by first | trivial | rfl | exact hI2 | exact hI1 | exact hT2 | exact hT1) h5⟩
      refine ⟨⟨by show ((tpL a b d).1).length ≤ 1000000; first | omega | assumption, by show ((rtpL a b d).1).length ≤ 1000000; first | omega | assumption⟩, ?_⟩
      exact ⟨rfl, rfl, congrArg V.b (propext ⟨fun _ => trivial, fun _ => (show ((tpL a b d).1) = ((rtpL a b d).1) by first | trivial | rfl | exact hI2 | exact hI1 | exact hT2 | exact hT1)⟩), rfl⟩
  · replace h0 : 24 < (a.length : Int) := h0
    refine ⟨trivial, ?_⟩
    exact ⟨rfl, rfl, congrArg V.b (propext ⟨fun _ => trivial, fun _ => (show True by first | trivial | rfl | exact hI2 | exact hI1 | exact hT2 | exact hT1)⟩), rfl⟩
theorem val_same (xs p q : List UInt8) (h : ∀ k, k < xs.length → horner (xs.getD k 0) p = horner (xs.getD k 0) q) : xs.map (fun x => horner x p) = xs.map (fun x => horner x q) := by
  apply List.map_congr_left
  intro x hx
  obtain ⟨k, hk, rfl⟩ := List.mem_iff_getElem.1 hx
  have e : xs.getD k 0 = xs[k] := by simp [List.getElem?_eq_getElem hk]
  rw [← e]
  exact h k hk
theorem val_ys (xs ys p : List UInt8) (hl : xs.length = ys.length) (h : ∀ k, k < xs.length → horner (xs.getD k 0) p = ys.getD k 0) : xs.map (fun x => horner x p) = ys := by
  refine List.ext_getElem (by simpa using hl) fun k h1 h2 => ?_
  rw [List.length_map] at h1
  have e : xs.getD k 0 = xs[k] := by simp [List.getElem?_eq_getElem h1]
  have e2 : ys.getD k 0 = ys[k] := by simp [List.getElem?_eq_getElem h2]
  rw [List.getElem_map, ← e, h k h1, e2]
theorem getD_vals (xs p : List UInt8) (k : Nat) (hk : k < xs.length) : (xs.map (fun x => horner x p)).getD k 0 = horner (xs.getD k 0) p := by
  simp [List.getElem?_eq_getElem hk]
theorem right_vals (xs p : List UInt8) (hn : xs.Nodup) : rightP xs (xs.map (fun x => horner x p)) := ⟨hn, by rw [List.length_map]⟩
theorem thr_vals (xs p : List UInt8) (hn : xs.Nodup) (hp : p.length ≤ xs.length) : thrL xs (xs.map (fun x => horner x p)) = trimL p :=
  thrL_unique xs _ p (right_vals xs p hn) (Nat.le_trans (sz_len p) hp) fun k hk => (getD_vals xs p k hk).symm
def sLIp : List V → Option (Prop × V × List Blk)
  | [.sl false .u8 a, .sl false .u8 b, .sl false .u8 p] => some (a.length ≤ 1048576 ∧ b.length ≤ 1048576 ∧ p.length ≤ 1048576, .b True, [])
  | _ => none
set_option maxHeartbeats 4000000 in
theorem bLIp (a : List UInt8) (b : List UInt8) (p : List UInt8) (hp0 : a.length ≤ 1048576) (hp1 : b.length ≤ 1048576) (hp2 : p.length ≤ 1048576) : bodyP ⟨CSanity, tys, G6⟩ Tryd.f5 [.k] [.sl false .u8 a, .sl false .u8 b, .sl false .u8 p] (.b True) [] := by
  refine ⟨⟨by show a.length ≤ 2000000; first | omega | assumption, by show b.length ≤ 2000000; first | omega | assumption⟩, fun h0 => ?_, fun h0 => ?_⟩
  · replace h0 : ¬ (40 < (a.length : Int)) := h0
    refine ⟨fun h1 => ?_, fun h1 => ?_⟩
    · replace h1 : ¬ (rightP a b) := h1
      refine ⟨trivial, ?_⟩
      exact ⟨rfl, rfl, congrArg V.b (propext ⟨fun _ => trivial, fun _ => (show True by first | trivial | rfl | exact fun h => h hr | exact fun h => h hE0 | omega | exact fun h => h hV | exact hF | exact hG | exact hS1 | exact hS2)⟩), rfl⟩
    · replace h1 : ¬ (¬ (rightP a b)) := h1
      have hr : rightP a b := Classical.not_not.1 h1
      have ha : a.length ≤ 40 := by omega
      have hab := hr.2
      have hI : ipL a b = (thrL a b, 0) := if_pos hr
      have hE0 : (ipL a b).2 = 0 := by rw [hI]
      have hI1 : (ipL a b).1 = thrL a b := by rw [hI]
      have hlen : (ipL a b).1.length ≤ a.length := by rw [hI1, ← thrL_trim]; exact thrL_sz a b
      have hV : a.map (fun x => horner x (ipL a b).1) = b := by rw [hI1]; exact val_ys a b _ hr.2 (thrL_val a b hr)
      have hml : (a.map (fun x => horner x (ipL a b).1)).length = a.length := List.length_map _
      have hml2 : (a.map (fun x => horner x p)).length = a.length := List.length_map _
      refine ⟨⟨by show a.length ≤ 10000; first | omega | assumption, by show b.length ≤ 10000; first | omega | assumption⟩, fun h2 => ?_, fun h2 => absurd h2 (show ¬ (((ipL a b).2) ≠ 0) by first | trivial | rfl | exact fun h => h hr | exact fun h => h hE0 | omega | exact fun h => h hV | exact hF | exact hG | exact hS1 | exact hS2)⟩
      refine ⟨fun h3 => ?_, fun h3 => absurd h3 (show ¬ ((a.length : Int) < ((((ipL a b).1).length : Nat) : Int)) by first | trivial | rfl | exact fun h => h hr | exact fun h => h hE0 | omega | exact fun h => h hV | exact hF | exact hG | exact hS1 | exact hS2)⟩
      refine ⟨⟨by show ((ipL a b).1).length ≤ 1000000; first | omega | assumption, by show a.length ≤ 1000000; first | omega | assumption⟩, ⟨by show (a.map (fun x => horner x ((ipL a b).1))).length ≤ 1000000; first | omega | assumption, by show b.length ≤ 1000000; first | omega | assumption⟩, fun h4 => absurd h4 (show ¬ (¬ ((a.map (fun x => horner x ((ipL a b).1))) = b)) by first | trivial | rfl | exact fun h => h hr | exact fun h => h hE0 | omega | exact fun h => h hV | exact hF | exact hG | exact hS1 | exact hS2), fun h4 => ?_⟩
      refine ⟨fun h5 => ?_, fun h5 => ?_⟩
      · replace h5 : ¬ ((a.length : Int) < (p.length : Int)) := h5
        refine ⟨fun h6 => ?_, fun h6 => ?_⟩
        · replace h6 : (p.length : Int) = 0 := h6
          refine ⟨trivial, ?_⟩
          exact ⟨rfl, rfl, congrArg V.b (propext ⟨fun _ => trivial, fun _ => (show True by first | trivial | rfl | exact fun h => h hr | exact fun h => h hE0 | omega | exact fun h => h hV | exact hF | exact hG | exact hS1 | exact hS2)⟩), rfl⟩
        · replace h6 : ¬ ((p.length : Int) = 0) := h6
          have hpl : p.length ≤ a.length := by omega
          have hrv := right_vals a p hr.1
          have htv := thr_vals a p hr.1 hpl
          have hI3 : ipL a (a.map (fun x => horner x p)) = (trimL p, 0) := by rw [← htv]; exact if_pos hrv
          have hF : (ipL a (a.map (fun x => horner x p))).2 = 0 := by rw [hI3]
          have hS1 : (ipL a (a.map (fun x => horner x p))).1 = trimL p := by rw [hI3]
          have hszp := sz_len p
          have hT3 : tpL a (a.map (fun x => horner x p)) ((p.length : Int) - 1) = (trimL p, 0) := by
            unfold tpL
            rw [if_pos hrv, if_neg (by omega), if_neg (by omega), htv, if_neg (by rw [degL_sz, sz_trim]; omega)]
          have hG : (tpL a (a.map (fun x => horner x p)) ((p.length : Int) - 1)).2 = 0 := by rw [hT3]
          have hS2 : (tpL a (a.map (fun x => horner x p)) ((p.length : Int) - 1)).1 = trimL p := by rw [hT3]
          have htl := trimL_len p
          have hl1 : (ipL a (a.map (fun x => horner x p))).1.length ≤ 40 := by rw [hS1]; omega
          have hl2 : (tpL a (a.map (fun x => horner x p)) ((p.length : Int) - 1)).1.length ≤ 40 := by rw [hS2]; omega
          refine ⟨⟨by show p.length ≤ 1000000; first | omega | assumption, by show a.length ≤ 1000000; first | omega | assumption⟩, ⟨by show a.length ≤ 10000; first | omega | assumption, by show (a.map (fun x => horner x p)).length ≤ 10000; first | omega | assumption⟩, ⟨by show p.length ≤ 1000000; first | omega | assumption, by show a.length ≤ 1000000; first | omega | assumption⟩, ⟨by omega, by omega⟩, rfl, ⟨by show a.length ≤ 10000; first | omega | assumption, by show (a.map (fun x => horner x p)).length ≤ 10000; first | omega | assumption⟩, trivial, fun h7 => ?_, fun h7 => absurd (show True by first | trivial | rfl | exact fun h => h hr | exact fun h => h hE0 | omega | exact fun h => h hV | exact hF | exact hG | exact hS1 | exact hS2) h7⟩
          refine ⟨fun h8 => ?_, fun h8 => absurd (show ((ipL a (a.map (fun x => horner x p))).2) = 0 by first | trivial | rfl | exact fun h => h hr | exact fun h => h hE0 | omega | exact fun h => h hV | exact hF | exact hG | exact hS1 | exact hS2) h8⟩
          refine ⟨fun h9 => ?_, fun h9 => absurd (show ((tpL a (a.map (fun x => horner x p)) ((p.length : Int) - 1)).2) = 0 by first | trivial | rfl | exact fun h => h hr | exact fun h => h hE0 | omega | exact fun h => h hV | exact hF | exact hG | exact hS1 | exact hS2) h9⟩
          refine ⟨by show p.length ≤ 1000000; first | omega | assumption, ⟨by show ((ipL a (a.map (fun x => horner x p))).1).length ≤ 1000000; first | omega | assumption, by show (trimL p).length ≤ 1000000; first | omega | assumption⟩, fun h10 => ?_, fun h10 => absurd (show ((ipL a (a.map (fun x => horner x p))).1) = (trimL p) by first | trivial | rfl | exact fun h => h hr | exact fun h => h hE0 | omega | exact fun h => h hV | exact hF | exact hG | exact hS1 | exact hS2) h10⟩
          refine ⟨by show p.length ≤ 1000000; first | omega | assumption, ⟨by show ((tpL a (a.map (fun x => horner x p)) ((p.length : Int) - 1)).1).length ≤ 1000000; first | omega | assumption, by show (trimL p).length ≤ 1000000; first | omega | assumption⟩, ?_⟩
          exact ⟨rfl, rfl, congrArg V.b (propext ⟨fun _ => trivial, fun _ => (show ((tpL a (a.map (fun x => horner x p)) ((p.length : Int) - 1)).1) = (trimL p) by first | trivial | rfl | exact fun h => h hr | exact fun h => h hE0 | omega | exact fun h => h hV | exact hF | exact hG | exact hS1 | exact hS2)⟩), rfl⟩
      · replace h5 : (a.length : Int) < (p.length : Int) := h5
        refine ⟨trivial, ?_⟩
        exact ⟨rfl, rfl, congrArg V.b (propext ⟨fun _ => trivial, fun _ => (show True by first | trivial | rfl | exact fun h => h hr | exact fun h => h hE0 | omega | exact fun h => h hV | exact hF | exact hG | exact hS1 | exact hS2)⟩), rfl⟩
  · replace h0 : 40 < (a.length : Int) := h0
    refine ⟨trivial, ?_⟩
    exact ⟨rfl, rfl, congrArg V.b (propext ⟨fun _ => trivial, fun _ => (show True by first | trivial | rfl | exact fun h => h hr | exact fun h => h hE0 | omega | exact fun h => h hV | exact hF | exact hG | exact hS1 | exact hS2)⟩), rfl⟩
end Go.Proofs.YtifaanbnijnbdaaDoor.S6

namespace Go.Proofs.YtifaanbnijnbdaaDoor.S6
open Go Go.Proofs.YtifaanbnijnbdaaDoor.Vc Go.Proofs
set_option maxRecDepth 100000
set_option linter.unusedVariables false

theorem rdecL_len (a b : List UInt8) (d w : Int) : (rdecL a b d w).1.length ≤ 2 * a.length + 1 ∧ (rdecL a b d w).2.1.length ≤ a.length := by
  unfold rdecL
  split
  · split
    · exact ⟨Nat.zero_le _, Nat.zero_le _⟩
    · cases rdF a b d w (2 ^ a.length) 0 with
      | none => exact ⟨Nat.zero_le _, Nat.zero_le _⟩
      | some t =>
        refine ⟨Nat.le_trans (lineL_len _ _) ?_, missA_len _ _ _ _⟩
        have := pickL_len a t a.length
        omega
  · exact ⟨Nat.zero_le _, Nat.zero_le _⟩
def sLDecSpec : List V → Option (Prop × V × List Blk)
  | [.sl false .u8 a, .sl false .u8 b, .int .i64 d, .int .i64 w] => some (a.length ≤ 1048576 ∧ b.length ≤ 1048576, .b True, [])
  | _ => none
set_option maxHeartbeats 4000000 in
theorem bLDecSpec (a : List UInt8) (b : List UInt8) (d : Int) (w : Int) (hp0 : a.length ≤ 1048576) (hp1 : b.length ≤ 1048576) : bodyP ⟨CSanity, tys, G6⟩ Tryd.f4 [.k] [.sl false .u8 a, .sl false .u8 b, .int .i64 d, .int .i64 w] (.b True) [] := by
  refine ⟨fun h0 => ?_, fun h0 => ?_⟩
  · replace h0 : ¬ (9 < (a.length : Int)) := h0
    refine ⟨fun h1 => ?_, fun h1 => ?_⟩
    · replace h1 : 9 < (b.length : Int) := h1
      refine ⟨trivial, ?_⟩
      exact ⟨rfl, rfl, congrArg V.b (propext ⟨fun _ => trivial, fun _ => (show True by first | trivial | rfl | exact hD1 | exact hD2 | exact hD3)⟩), rfl⟩
    · replace h1 : ¬ (9 < (b.length : Int)) := h1
      have ha : a.length ≤ 9 := by omega
      have hb : b.length ≤ 9 := by omega
      have hsome := dec_some a b (by omega) d w
      have hD : decT a b d w = rdecL a b d w := by unfold decT; rw [dec_same a b d w (by omega)]; rfl
      have hD1 : (decT a b d w).1 = (rdecL a b d w).1 := by rw [hD]
      have hD2 : (decT a b d w).2.1 = (rdecL a b d w).2.1 := by rw [hD]
      have hD3 : (decT a b d w).2.2 = (rdecL a b d w).2.2 := by rw [hD]
      have hl := rdecL_len a b d w
      have hl1 : (rdecL a b d w).1.length ≤ 100 := by omega
      have hl2 : (rdecL a b d w).2.1.length ≤ 100 := by omega
      have hl3 : (decT a b d w).1.length ≤ 100 := by rw [hD1]; omega
      have hl4 : (decT a b d w).2.1.length ≤ 100 := by rw [hD2]; omega
      refine ⟨rfl, rfl, ⟨by show a.length ≤ 10000; first | omega | assumption, by show b.length ≤ 10000; first | omega | assumption, by assumption⟩, rfl, rfl, ⟨by show a.length ≤ 12; first | omega | assumption, by show b.length ≤ 12; first | omega | assumption⟩, ⟨rfl, rfl, rfl, Nat.le_of_ble_eq_true rfl⟩, trivial, fun h2 => ?_, fun h2 => absurd (show True by first | trivial | rfl | exact hD1 | exact hD2 | exact hD3) h2⟩
      refine ⟨fun h3 => ?_, fun h3 => absurd (show ((decT a b d w).2.2) = ((rdecL a b d w).2.2) by first | trivial | rfl | exact hD1 | exact hD2 | exact hD3) h3⟩
      refine ⟨⟨by show ((decT a b d w).1).length ≤ 1000000; first | omega | assumption, by show ((rdecL a b d w).1).length ≤ 1000000; first | omega | assumption⟩, fun h4 => ?_, fun h4 => absurd (show ((decT a b d w).1) = ((rdecL a b d w).1) by first | trivial | rfl | exact hD1 | exact hD2 | exact hD3) h4⟩
      refine ⟨⟨by show ((decT a b d w).2.1).length ≤ 1000000; first | omega | assumption, by show ((rdecL a b d w).2.1).length ≤ 1000000; first | omega | assumption⟩, ?_⟩
      exact ⟨rfl, rfl, congrArg V.b (propext ⟨fun _ => trivial, fun _ => (show ((decT a b d w).2.1) = ((rdecL a b d w).2.1) by first | trivial | rfl | exact hD1 | exact hD2 | exact hD3)⟩), rfl⟩
  · replace h0 : 9 < (a.length : Int) := h0
    refine ⟨trivial, ?_⟩
    exact ⟨rfl, rfl, congrArg V.b (propext ⟨fun _ => trivial, fun _ => (show True by first | trivial | rfl | exact hD1 | exact hD2 | exact hD3)⟩), rfl⟩
def sLRef : List V → Option (Prop × V × List Blk)
  | [.sl false .u8 a, .sl false .u8 b, .u8 dg, .u8 wr, .sl false .u8 q] => some (a.length ≤ 1048576 ∧ b.length ≤ 1048576 ∧ q.length ≤ 1048576, .b True, [])
  | _ => none
set_option maxHeartbeats 4000000 in
theorem bLRef (a : List UInt8) (b : List UInt8) (dg : UInt8) (wr : UInt8) (q : List UInt8) (hp0 : a.length ≤ 1048576) (hp1 : b.length ≤ 1048576) (hp2 : q.length ≤ 1048576) : bodyP ⟨CSanity, tys, G6⟩ Tryd.f7 [.k] [.sl false .u8 a, .sl false .u8 b, .u8 dg, .u8 wr, .sl false .u8 q] (.b True) [] := by
  have hdg := dg.toNat_lt
  have hwr := wr.toNat_lt
  refine ⟨⟨by show a.length ≤ 2000000; first | omega | assumption, by show b.length ≤ 2000000; first | omega | assumption⟩, fun h0 => ?_, fun h0 => ?_⟩
  · replace h0 : ¬ (40 < (a.length : Int)) := h0
    refine ⟨fun h1 => ?_, fun h1 => ?_⟩
    · replace h1 : ¬ (¬ (rightP a b)) := h1
      refine ⟨⟨by omega, by omega⟩, fun h2 => ?_, fun h2 => ?_⟩
      · replace h2 : ¬ (((dg.toNat : Int) + 1) < (q.length : Int)) := h2
        refine ⟨⟨by omega, by omega⟩, ⟨by omega, by omega⟩, ⟨by omega, by omega⟩, fun h3 => ?_, fun h3 => ?_⟩
        · replace h3 : (a.length : Int) < (((dg.toNat : Int) + 1) + (2 * (wr.toNat : Int))) := h3
          refine ⟨trivial, ?_⟩
          exact ⟨rfl, rfl, congrArg V.b (propext ⟨fun _ => trivial, fun _ => (show True by first | trivial | rfl | exact hP h4 | exact hL (by assumption) | exact hO4 (by assumption) | (have hz := hO (by assumption); omega) | exact fun h => h (hO (by assumption)).1 | exact fun h => h (hO4 (by assumption)) | exact hO5 (by assumption))⟩), rfl⟩
        · replace h3 : ¬ ((a.length : Int) < (((dg.toNat : Int) + 1) + (2 * (wr.toNat : Int)))) := h3
          have hr : rightP a b := Classical.not_not.1 h1
          have ha : a.length ≤ 40 := by omega
          have hab := hr.2
          have hc : decOk a (dg.toNat : Int) (wr.toNat : Int) := by unfold decOk; omega
          have hsome := dec_some a b (by omega) (dg.toNat : Int) (wr.toNat : Int)
          have hcase : (decT a b (dg.toNat : Int) (wr.toNat : Int) = ([], [], 17)) ∨ ∃ p, decT a b (dg.toNat : Int) (wr.toNat : Int) = (p, missA p a b a.length, 0) ∧ trimL p = p ∧ degL p ≤ (dg.toNat : Int) ∧ ((missA p a b a.length).length : Int) ≤ (wr.toNat : Int) := by
            rcases dec_sound a b hr (by omega) _ _ hc with h | ⟨p, h, h2⟩
            · left; unfold decT; rw [h]; rfl
            · exact .inr ⟨p, by unfold decT; rw [h]; rfl, h2⟩
          have hcomp : ¬ ((wr.toNat : Int) < ((missA q a b a.length).length : Int)) → decT a b (dg.toNat : Int) (wr.toNat : Int) = (trimL q, missA q a b a.length, 0) := fun hn => by
            have hq := sz_len q
            unfold decT
            rw [dec_complete a b hr (by omega) _ _ hc q (by rw [degL_sz]; omega) (by omega)]
            rfl
          have hL : (decT a b (dg.toNat : Int) (wr.toNat : Int)).2.2 = 17 → (wr.toNat : Int) < ((missA q a b a.length).length : Int) := fun h => Classical.byContradiction fun hn => by
            rw [hcomp hn] at h
            have h : (0 : Int) = 17 := h
            omega
          have hO : ¬ (decT a b (dg.toNat : Int) (wr.toNat : Int)).2.2 = 17 → (decT a b (dg.toNat : Int) (wr.toNat : Int)).2.2 = 0 ∧ ((decT a b (dg.toNat : Int) (wr.toNat : Int)).1.length : Int) ≤ (dg.toNat : Int) + 1 ∧ ((decT a b (dg.toNat : Int) (wr.toNat : Int)).2.1.length : Int) ≤ (wr.toNat : Int) := fun h => by
            rcases hcase with e | ⟨p, e, hp, hd, hw⟩
            · rw [e] at h; exact absurd rfl h
            · rw [e]
              have := sz_eq_len hp
              rw [degL_sz] at hd
              exact ⟨rfl, by show (p.length : Int) ≤ _; omega, hw⟩
          have hO4 : ¬ (decT a b (dg.toNat : Int) (wr.toNat : Int)).2.2 = 17 → (decT a b (dg.toNat : Int) (wr.toNat : Int)).2.1 = missA (decT a b (dg.toNat : Int) (wr.toNat : Int)).1 a b a.length := fun h => by
            rcases hcase with e | ⟨p, e, _⟩
            · rw [e] at h; exact absurd rfl h
            · rw [e]
          have hO5 : ¬ ((wr.toNat : Int) < ((missA q a b a.length).length : Int)) → trimL q = (decT a b (dg.toNat : Int) (wr.toNat : Int)).1 := fun h => by rw [hcomp h]
          have hl : (decT a b (dg.toNat : Int) (wr.toNat : Int)).1.length ≤ 300 ∧ (decT a b (dg.toNat : Int) (wr.toNat : Int)).2.1.length ≤ 300 := by
            rcases hcase with e | ⟨p, e, hp, hd, hw⟩
            · rw [e]; exact ⟨Nat.zero_le _, Nat.zero_le _⟩
            · rw [e]
              have := sz_eq_len hp
              rw [degL_sz] at hd
              exact ⟨by show p.length ≤ 300; omega, by show (missA p a b a.length).length ≤ 300; omega⟩
          obtain ⟨hl1, hl2⟩ := hl
          have hl3 := missA_len q a b a.length
          have hl4 := missA_len (decT a b (dg.toNat : Int) (wr.toNat : Int)).1 a b a.length
          have hl5 := trimL_len q
          refine ⟨rfl, rfl, ⟨by show a.length ≤ 10000; first | omega | assumption, by show b.length ≤ 10000; first | omega | assumption, by assumption⟩, ⟨by show q.length ≤ 1000000; first | omega | assumption, by show a.length ≤ 100000; first | omega | assumption, by show a.length ≤ b.length; first | omega | assumption⟩, fun h4 => ?_, fun h4 => ?_⟩
          · replace h4 : ((decT a b (dg.toNat : Int) (wr.toNat : Int)).2.2) = 17 := h4
            refine ⟨trivial, fun h5 => ?_, fun h5 => absurd (show True by first | trivial | rfl | exact hP h4 | exact hL (by assumption) | exact hO4 (by assumption) | (have hz := hO (by assumption); omega) | exact fun h => h (hO (by assumption)).1 | exact fun h => h (hO4 (by assumption)) | exact hO5 (by assumption)) h5⟩
            exact ⟨rfl, rfl, congrArg V.b (propext ⟨fun _ => trivial, fun _ => (show (wr.toNat : Int) < (((missA q a b a.length).length : Nat) : Int) by first | trivial | rfl | exact hP h4 | exact hL (by assumption) | exact hO4 (by assumption) | (have hz := hO (by assumption); omega) | exact fun h => h (hO (by assumption)).1 | exact fun h => h (hO4 (by assumption)) | exact hO5 (by assumption))⟩), rfl⟩
          · replace h4 : ¬ (((decT a b (dg.toNat : Int) (wr.toNat : Int)).2.2) = 17) := h4
            refine ⟨fun h6 => ?_, fun h6 => absurd h6 (show ¬ (((decT a b (dg.toNat : Int) (wr.toNat : Int)).2.2) ≠ 0) by first | trivial | rfl | exact hP h4 | exact hL (by assumption) | exact hO4 (by assumption) | (have hz := hO (by assumption); omega) | exact fun h => h (hO (by assumption)).1 | exact fun h => h (hO4 (by assumption)) | exact hO5 (by assumption))⟩
            refine ⟨⟨by omega, by omega⟩, fun h7 => ?_, fun h7 => absurd h7 (show ¬ (((dg.toNat : Int) + 1) < ((((decT a b (dg.toNat : Int) (wr.toNat : Int)).1).length : Nat) : Int)) by first | trivial | rfl | exact hP h4 | exact hL (by assumption) | exact hO4 (by assumption) | (have hz := hO (by assumption); omega) | exact fun h => h (hO (by assumption)).1 | exact fun h => h (hO4 (by assumption)) | exact hO5 (by assumption))⟩
            refine ⟨fun h8 => ?_, fun h8 => absurd h8 (show ¬ ((wr.toNat : Int) < ((((decT a b (dg.toNat : Int) (wr.toNat : Int)).2.1).length : Nat) : Int)) by first | trivial | rfl | exact hP h4 | exact hL (by assumption) | exact hO4 (by assumption) | (have hz := hO (by assumption); omega) | exact fun h => h (hO (by assumption)).1 | exact fun h => h (hO4 (by assumption)) | exact hO5 (by assumption))⟩
            refine ⟨⟨by show ((decT a b (dg.toNat : Int) (wr.toNat : Int)).1).length ≤ 1000000; first | omega | assumption, by show a.length ≤ 100000; first | omega | assumption, by show a.length ≤ b.length; first | omega | assumption⟩, ⟨by show ((decT a b (dg.toNat : Int) (wr.toNat : Int)).2.1).length ≤ 1000000; first | omega | assumption, by show (missA ((decT a b (dg.toNat : Int) (wr.toNat : Int)).1) a b a.length).length ≤ 1000000; first | omega | assumption⟩, fun h9 => absurd h9 (show ¬ (¬ (((decT a b (dg.toNat : Int) (wr.toNat : Int)).2.1) = (missA ((decT a b (dg.toNat : Int) (wr.toNat : Int)).1) a b a.length))) by first | trivial | rfl | exact hP h4 | exact hL (by assumption) | exact hO4 (by assumption) | (have hz := hO (by assumption); omega) | exact fun h => h (hO (by assumption)).1 | exact fun h => h (hO4 (by assumption)) | exact hO5 (by assumption)), fun h9 => ?_⟩
            refine ⟨trivial, fun h10 => ?_, fun h10 => absurd (show True by first | trivial | rfl | exact hP h4 | exact hL (by assumption) | exact hO4 (by assumption) | (have hz := hO (by assumption); omega) | exact fun h => h (hO (by assumption)).1 | exact fun h => h (hO4 (by assumption)) | exact hO5 (by assumption)) h10⟩
            refine ⟨fun h11 => ?_, fun h11 => ?_⟩
            · replace h11 : ¬ ((wr.toNat : Int) < (((missA q a b a.length).length : Nat) : Int)) := h11
              refine ⟨by show q.length ≤ 1000000; first | omega | assumption, ⟨by show (trimL q).length ≤ 1000000; first | omega | assumption, by show ((decT a b (dg.toNat : Int) (wr.toNat : Int)).1).length ≤ 1000000; first | omega | assumption⟩, ?_⟩
              exact ⟨rfl, rfl, congrArg V.b (propext ⟨fun _ => trivial, fun _ => (show (trimL q) = ((decT a b (dg.toNat : Int) (wr.toNat : Int)).1) by first | trivial | rfl | exact hP h4 | exact hL (by assumption) | exact hO4 (by assumption) | (have hz := hO (by assumption); omega) | exact fun h => h (hO (by assumption)).1 | exact fun h => h (hO4 (by assumption)) | exact hO5 (by assumption))⟩), rfl⟩
            · replace h11 : (wr.toNat : Int) < (((missA q a b a.length).length : Nat) : Int) := h11
              exact ⟨rfl, rfl, congrArg V.b (propext ⟨fun _ => trivial, fun _ => (show true = true by first | trivial | rfl | exact hP h4 | exact hL (by assumption) | exact hO4 (by assumption) | (have hz := hO (by assumption); omega) | exact fun h => h (hO (by assumption)).1 | exact fun h => h (hO4 (by assumption)) | exact hO5 (by assumption))⟩), rfl⟩
      · replace h2 : ((dg.toNat : Int) + 1) < (q.length : Int) := h2
        refine ⟨trivial, ?_⟩
        exact ⟨rfl, rfl, congrArg V.b (propext ⟨fun _ => trivial, fun _ => (show True by first | trivial | rfl | exact hP h4 | exact hL (by assumption) | exact hO4 (by assumption) | (have hz := hO (by assumption); omega) | exact fun h => h (hO (by assumption)).1 | exact fun h => h (hO4 (by assumption)) | exact hO5 (by assumption))⟩), rfl⟩
    · replace h1 : ¬ (rightP a b) := h1
      refine ⟨trivial, ?_⟩
      exact ⟨rfl, rfl, congrArg V.b (propext ⟨fun _ => trivial, fun _ => (show True by first | trivial | rfl | exact hP h4 | exact hL (by assumption) | exact hO4 (by assumption) | (have hz := hO (by assumption); omega) | exact fun h => h (hO (by assumption)).1 | exact fun h => h (hO4 (by assumption)) | exact hO5 (by assumption))⟩), rfl⟩
  · replace h0 : 40 < (a.length : Int) := h0
    refine ⟨trivial, ?_⟩
    exact ⟨rfl, rfl, congrArg V.b (propext ⟨fun _ => trivial, fun _ => (show True by first | trivial | rfl | exact hP h4 | exact hL (by assumption) | exact hO4 (by assumption) | (have hz := hO (by assumption); omega) | exact fun h => h (hO (by assumption)).1 | exact fun h => h (hO4 (by assumption)) | exact hO5 (by assumption))⟩), rfl⟩
theorem mem_getD {α : Type} (d : α) (l : List α) (k : Nat) (h : k < l.length) : l.getD k d ∈ l := by simp [List.getElem?_eq_getElem h]
theorem missA_set (p xs : List UInt8) (i : Nat) (c : UInt8) (ys : List UInt8) : ∀ n, (missA p xs (ys.set i c) n).length ≤ (missA p xs ys n).length + (if i < n then 1 else 0)
  | 0 => Nat.zero_le _
  | n + 1 => by
    have ih := missA_set p xs i c ys n
    unfold missA
    by_cases hi : i = n
    · have e1 : (if i < n then 1 else 0) = 0 := if_neg (by omega)
      have e2 : (if i < n + 1 then 1 else 0) = 1 := if_pos (by omega)
      rw [e1] at ih
      rw [e2]
      split <;> split <;> (try simp only [List.length_append, List.length_singleton]) <;> omega
    · have e : (ys.set i c).getD n 0 = ys.getD n 0 := by simp [List.getD_eq_getElem?_getD, List.getElem?_set_ne hi]
      rw [e]
      have h2 : (if i < n then 1 else 0) = (if i < n + 1 then 1 else 0) := by
        by_cases h : i < n
        · rw [if_pos h, if_pos (by omega)]
        · rw [if_neg h, if_neg (by omega)]
      rw [← h2]
      split
      · rw [List.length_append, List.length_append, List.length_singleton]; omega
      · exact ih
theorem missA_set1 (p xs : List UInt8) (i : Nat) (c : UInt8) (ys : List UInt8) (n : Nat) : (missA p xs (ys.set i c) n).length ≤ (missA p xs ys n).length + 1 := by
  have := missA_set p xs i c ys n
  split at this <;> omega
def sLCor : List V → Option (Prop × V × List Blk)
  | [.sl false .u8 a, .sl false .u8 p, .sl false (.int .u16) cs] => some (a.length ≤ 1048576 ∧ p.length ≤ 1048576 ∧ cs.length ≤ 1048576 ∧ ∀ c ∈ cs, 0 ≤ c ∧ c ≤ 65535, .b True, [])
  | _ => none
set_option maxHeartbeats 4000000 in
theorem bLCor (a : List UInt8) (p : List UInt8) (cs : List Int) (hp0 : a.length ≤ 1048576) (hp1 : p.length ≤ 1048576) (hp2 : cs.length ≤ 1048576) (hp3 : ∀ c ∈ cs, 0 ≤ c ∧ c ≤ 65535) : bodyP ⟨CSanity, tys, G6⟩ Tryd.f6 [.k] [.sl false .u8 a, .sl false .u8 p, .sl false (.int .u16) cs] (.b True) [] := by
  refine ⟨⟨by show a.length ≤ 2000000; first | omega | assumption, by show a.length ≤ 2000000; first | omega | assumption⟩, fun h0 => ?_, fun h0 => ?_⟩
  · replace h0 : ¬ (40 < (a.length : Int)) := h0
    refine ⟨fun h1 => ?_, fun h1 => ?_⟩
    · replace h1 : ¬ (¬ (rightP a a)) := h1
      refine ⟨fun h2 => ?_, fun h2 => ?_⟩
      · replace h2 : ¬ ((p.length : Int) = 0) := h2
        refine ⟨fun h3 => ?_, fun h3 => ?_⟩
        · replace h3 : (a.length : Int) < (p.length : Int) := h3
          refine ⟨trivial, ?_⟩
          exact ⟨rfl, rfl, congrArg V.b (propext ⟨fun _ => trivial, fun _ => (show True by first | trivial | rfl | exact hS0 | exact hS1 | exact hS2)⟩), rfl⟩
        · replace h3 : ¬ ((a.length : Int) < (p.length : Int)) := h3
          have hr : rightP a a := Classical.not_not.1 h1
          have ha : a.length ≤ 40 := by omega
          have hm0 : (missA p a (a.map (fun x => horner x p)) a.length).length = 0 := (missA_nil p a _ a.length).2 fun k hk => (getD_vals a p k hk).symm
          refine ⟨⟨by omega, by omega⟩, .inl ⟨⟨by omega, by omega⟩, ?_⟩⟩
          refine ⟨fun h4 => ?_, fun h4 => ?_⟩
          · replace h4 : (((a.length : Int) - (p.length : Int)) / 2) < (cs.length : Int) := h4
            refine ⟨trivial, ?_⟩
            exact ⟨rfl, rfl, congrArg V.b (propext ⟨fun _ => trivial, fun _ => (show True by first | trivial | rfl | exact hS0 | exact hS1 | exact hS2)⟩), rfl⟩
          · replace h4 : ¬ ((((a.length : Int) - (p.length : Int)) / 2) < (cs.length : Int)) := h4
            refine ⟨⟨by show p.length ≤ 1000000; first | omega | assumption, by show a.length ≤ 1000000; first | omega | assumption⟩, 0, [(0, .k), (1, .k), (2, .k), (8, .k), (9, .o .u8), (10, .k)], fun n vs H => ∃ (k : Nat) (y : List UInt8), k ≤ cs.length ∧ y.length = a.length ∧ (missA p a y a.length).length ≤ k ∧ n = cs.length - k ∧ vs = [.sl false .u8 a, .sl false .u8 p, .sl false (.int .u16) cs, .int .i64 (((a.length : Int) - (p.length : Int)) / 2), .own .u8 0, .int .i64 (k : Int)] ∧ H = [.row true .u8 y], ⟨rfl, cs.length, 0, a.map (fun x => horner x p), by omega, List.length_map _, Nat.le_of_eq hm0, by omega, rfl, rfl⟩, ?_⟩
            rintro n vs H ⟨k, y, hc1_0, hc1_1, hc1_2, rfl, rfl, rfl⟩
            refine ⟨fun h5 => ?_, fun h5 => ?_⟩
            · replace h5 : (k : Int) < (cs.length : Int) := h5
              have hck : 0 ≤ cs.getD k 0 ∧ cs.getD k 0 ≤ 65535 := hp3 _ (mem_getD 0 cs k (by omega))
              refine ⟨by kernel_rfl, ⟨by omega, by omega⟩, ⟨by omega, by omega⟩, ⟨by show (-9223372036854775808 : Int) ≤ (cs.getD k 0) / 256; omega, by show (cs.getD k 0) / 256 ≤ (9223372036854775807 : Int); omega⟩, .inl ⟨⟨by show (0 : Int) ≤ ((cs.getD k 0) / 256); omega, by omega⟩, ?_⟩⟩
              refine ⟨⟨by omega, by omega⟩, ⟨Int.emod_nonneg _ (by omega), Int.lt_of_lt_of_le (Int.emod_lt_of_pos _ (by omega)) (by omega)⟩, ⟨rfl, rfl⟩, ⟨by omega, by omega⟩, ?_⟩
              exact ⟨rfl, cs.length - (k + 1), by omega, k + 1, _, by omega, (List.length_set ..).trans hc1_1, Nat.le_trans (missA_set1 p a _ _ y _) (by omega), rfl, rfl, rfl⟩
            · replace h5 : ¬ ((k : Int) < (cs.length : Int)) := h5
              have hra : rightP a y := ⟨hr.1, hc1_1.symm⟩
              have hc : decOk a ((p.length : Int) - 1) (((a.length : Int) - (p.length : Int)) / 2) := by unfold decOk; omega
              have hsome := dec_some a y (by omega) ((p.length : Int) - 1) (((a.length : Int) - (p.length : Int)) / 2)
              have hszp := sz_len p
              have hdec : decT a y ((p.length : Int) - 1) (((a.length : Int) - (p.length : Int)) / 2) = (trimL p, missA p a y a.length, 0) := by
                unfold decT
                rw [dec_complete a y hra (by omega) _ _ hc p (by rw [degL_sz]; omega) (by omega)]
                rfl
              have hS0 : (decT a y ((p.length : Int) - 1) (((a.length : Int) - (p.length : Int)) / 2)).2.2 = 0 := by rw [hdec]
              have hS1 : (decT a y ((p.length : Int) - 1) (((a.length : Int) - (p.length : Int)) / 2)).1 = trimL p := by rw [hdec]
              have hS2 : (decT a y ((p.length : Int) - 1) (((a.length : Int) - (p.length : Int)) / 2)).2.1 = missA p a y a.length := by rw [hdec]
              have hlt := trimL_len p
              have hlm := missA_len p a y a.length
              have hl1 : (decT a y ((p.length : Int) - 1) (((a.length : Int) - (p.length : Int)) / 2)).1.length ≤ 40 := by rw [hS1]; omega
              have hl2 : (decT a y ((p.length : Int) - 1) (((a.length : Int) - (p.length : Int)) / 2)).2.1.length ≤ 40 := by rw [hS2]; omega
              refine ⟨⟨by show p.length ≤ 1000000; first | omega | assumption, by show a.length ≤ 100000; first | omega | assumption, by show a.length ≤ y.length; first | omega | assumption⟩, ⟨by omega, by omega⟩, rfl, rfl, ⟨by show a.length ≤ 10000; first | omega | assumption, by show y.length ≤ 10000; first | omega | assumption, by assumption⟩, trivial, fun h6 => ?_, fun h6 => absurd (show True by first | trivial | rfl | exact hS0 | exact hS1 | exact hS2) h6⟩
              refine ⟨fun h7 => ?_, fun h7 => absurd (show ((decT a y ((p.length : Int) - 1) (((a.length : Int) - (p.length : Int)) / 2)).2.2) = 0 by first | trivial | rfl | exact hS0 | exact hS1 | exact hS2) h7⟩
              refine ⟨by show p.length ≤ 1000000; first | omega | assumption, ⟨by show ((decT a y ((p.length : Int) - 1) (((a.length : Int) - (p.length : Int)) / 2)).1).length ≤ 1000000; first | omega | assumption, by show (trimL p).length ≤ 1000000; first | omega | assumption⟩, fun h8 => ?_, fun h8 => absurd (show ((decT a y ((p.length : Int) - 1) (((a.length : Int) - (p.length : Int)) / 2)).1) = (trimL p) by first | trivial | rfl | exact hS0 | exact hS1 | exact hS2) h8⟩
              refine ⟨⟨by show ((decT a y ((p.length : Int) - 1) (((a.length : Int) - (p.length : Int)) / 2)).2.1).length ≤ 1000000; first | omega | assumption, by show (missA p a y a.length).length ≤ 1000000; first | omega | assumption⟩, ?_⟩
              exact ⟨rfl, rfl, congrArg V.b (propext ⟨fun _ => trivial, fun _ => (show ((decT a y ((p.length : Int) - 1) (((a.length : Int) - (p.length : Int)) / 2)).2.1) = (missA p a y a.length) by first | trivial | rfl | exact hS0 | exact hS1 | exact hS2)⟩), rfl⟩
      · replace h2 : (p.length : Int) = 0 := h2
        refine ⟨trivial, ?_⟩
        exact ⟨rfl, rfl, congrArg V.b (propext ⟨fun _ => trivial, fun _ => (show True by first | trivial | rfl | exact hS0 | exact hS1 | exact hS2)⟩), rfl⟩
    · replace h1 : ¬ (rightP a a) := h1
      refine ⟨trivial, ?_⟩
      exact ⟨rfl, rfl, congrArg V.b (propext ⟨fun _ => trivial, fun _ => (show True by first | trivial | rfl | exact hS0 | exact hS1 | exact hS2)⟩), rfl⟩
  · replace h0 : 40 < (a.length : Int) := h0
    refine ⟨trivial, ?_⟩
    exact ⟨rfl, rfl, congrArg V.b (propext ⟨fun _ => trivial, fun _ => (show True by first | trivial | rfl | exact hS0 | exact hS1 | exact hS2)⟩), rfl⟩
end Go.Proofs.YtifaanbnijnbdaaDoor.S6

namespace Go.Proofs.YtifaanbnijnbdaaDoor.Cd
open Go Go.Proofs.YtifaanbnijnbdaaDoor.Vc Go.Proofs Go.Proofs.YtifaanbnijnbdaaDoor.S6 Go.ChangeShapes Go.WideShapes Go.ChangeAt Go.RowKit
set_option maxRecDepth 100000
set_option linter.unusedVariables false

theorem bulkAll {H : Type} : ∀ l : List (DataW H), Rows.uptoBulkAll l = (l.map Rows.uptoBulk).sum
  | [] => rfl
  | d :: l => by rw [Rows.uptoBulkAll, bulkAll l]; rfl
theorem bulk {H : Type} : Bulk (H := H) Rows.uptoBulk where
  one d := by cases d with
    | lit l => cases l <;> simp [Rows.uptoBulk]
    | _ => simp [Rows.uptoBulk]
  str b := by simp [Rows.uptoBulk]
  sl es sp := by rw [Rows.uptoBulk, bulkAll, bulkAll]; omega
  agg ps := by rw [Rows.uptoBulk, bulkAll]; omega
theorem laidOut : laidOutB Tryd.prog = true := by kernel_rfl
theorem own : ownKnob Tryd.prog.godebug = none := by kernel_rfl

section
variable {H : Type} {enc : TypeId × Value → H} {P : Program}
theorem post_same {f : Func} {s : ChangeSpec} {apart fresh handsOn again : Bool} {W W' : World} {args : Array Value} {v : Value} {ds gs : List (DataW H)} {before pa pv : List MemPlace}
    (hW : DataW.Whole enc P f.params.toList s.vars apart W args.toList ds gs before)
    (hres : ∀ (b : Nat) (sp : Nat → Bool) (hd : Bool), DataW.TrodAll enc P W' b sp hd f.resultTypes.toList (v.resultList f.resultTypes.size) (s.fn H (ds ++ gs)).results [])
    (hargs : ∀ sp : Nat → Bool, (∀ p ∈ before, sp p.block = true) → DataW.TrodAll enc P W' 0 sp true f.params.toList args.toList (s.fn H (ds ++ gs)).args pa)
    (hvars : ∀ sp : Nat → Bool, (∀ p ∈ before, sp p.block = true) → DataW.TrodVars enc P W' sp s.vars (s.fn H (ds ++ gs)).vars pv)
    (hps : before = pa ++ pv) (hb : Below W.heap.size W W')
    (hok : ∀ (j : Nat) (t : TypeId) (r : Value), f.resultTypes[j]? = some t → (v.resultList f.resultTypes.size)[j]? = some r → Value.okWide P W' .any 0 t r) :
    s.post enc P f apart fresh handsOn again W args v W' := by
  have hlt : ∀ p ∈ before, p.block < W.heap.size := fun p hp => by simpa using hW.lt p hp
  have hold : ∀ p ∈ before, (fun b => decide (b < W.heap.size)) p.block = true := fun p hp => by simpa using hW.lt p hp
  refine ⟨ds, gs, before, [], pa, pv, hW, hres _ _ _, hargs _ hold, hvars _ hold, World.keptBut_mono (fun p hp => ⟨hp, ?_⟩) (hb.frame (· ∈ before)), fun _ => ?_⟩
  · rw [hps, List.mem_append] at hp
    exact Or.inr hp
  · obtain ⟨_, _, _, _, _, hz, hn⟩ := hW
    refine ⟨hok, _, _, ([] ++ pa) ++ pv, ⟨[] ++ pa, pv, trodAll_append (hargs _ (fun _ _ => rfl)) (hres _ _ _), hvars _ (fun _ _ => rfl), rfl, ?_, ?_⟩, ?_⟩
    · intro b off hp
      have hp' : MemPlace.cell b off ∈ before := by rw [hps]; simpa using hp
      rw [hb.frozen (hlt _ hp')]
      exact hz b off hp'
    · intro ha
      have := hn ha
      rw [hps] at this
      simpa using this
    · intro p hp _
      rw [hps]
      simpa using hp
end
end Go.Proofs.YtifaanbnijnbdaaDoor.Cd

/- Texts of this claim: S27.Pm, S27.Pi, S27.Pa, S27.A0, S27.Pb, S27.A1, S27.Pc. -/
import Derived.Test.YtmkphnlpbngenaaDoorS0
set_option linter.unusedVariables false
set_option linter.unusedSimpArgs false
namespace Go.Proofs.YtmkphnlpbngenaaDoor.S27
open Go Go.Proofs.YtmkphnlpbngenaaDoor.Vc Go.Proofs
set_option maxRecDepth 100000

/-! ### The product -/
theorem co_set (q : List UInt8) (k : Nat) (c : UInt8) (j : Nat) (hk : k < q.length) : co (q.set k c) j = if j = k then c else co q j := by
  unfold co
  simp only [List.getD_eq_getElem?_getD, List.getElem?_set]
  by_cases h : j = k
  · rw [if_pos h, if_pos h.symm, if_pos hk]; rfl
  · rw [if_neg h, if_neg (Ne.symm h)]
theorem co_addAt (acc : List UInt8) (i : Nat) (c : UInt8) (j : Nat) (hi : i < acc.length) : co (addAt acc i c) j = co acc j ^^^ (if j = i then c else 0) := by
  unfold addAt
  rw [co_set _ _ _ _ hi]
  by_cases h : j = i
  · rw [if_pos h, if_pos h, h]; rfl
  · rw [if_neg h, if_neg h]; simp
theorem co_rowA (x : UInt8) : ∀ (b acc : List UInt8) (i j : Nat), i + b.length ≤ acc.length → co (rowA x acc i b) j = co acc j ^^^ sh i (fun k => mulL x (co b k)) j
  | [], acc, i, j, h => by
    rw [rowA]
    have : sh i (fun k => mulL x (co [] k)) j = 0 := by
      unfold sh
      split
      · rfl
      · dsimp only; rw [co_nil, mul_zero']
    rw [this]; simp
  | y :: b, acc, i, j, h => by
    simp only [List.length_cons] at h
    rw [rowA, co_rowA x b _ (i + 1) j (by rw [addAt_len]; omega), co_addAt _ _ _ _ (by omega)]
    have : sh i (fun k => mulL x (co (y :: b) k)) j = (if j = i then mulL x y else 0) ^^^ sh (i + 1) (fun k => mulL x (co b k)) j := by
      unfold sh
      by_cases h1 : j < i
      · rw [if_pos h1, if_neg (by omega), if_pos (by omega)]; rfl
      · by_cases h2 : j = i
        · rw [if_neg h1, if_pos h2, if_pos (by omega), h2, Nat.sub_self]; simp [co_zero]
        · rw [if_neg h1, if_neg h2, if_neg (by omega)]
          rw [show j - i = (j - (i + 1)) + 1 by omega]
          dsimp only
          rw [co_succ]
          simp
    rw [this]
    ac_rfl
theorem co_prodA (b : List UInt8) : ∀ (a acc : List UInt8) (i j : Nat), i + a.length + b.length ≤ acc.length → co (prodA b acc i a) j = co acc j ^^^ sh i (cv (co a) (co b)) j
  | [], acc, i, j, h => by
    rw [prodA]
    have : sh i (cv (co []) (co b)) j = 0 := by
      unfold sh
      split
      · rfl
      · exact cv_zerol _ _ _ fun i => rfl
    rw [this]; simp
  | x :: a, acc, i, j, h => by
    simp only [List.length_cons] at h
    rw [prodA, co_prodA b a _ (i + 1) j (by rw [rowA_len]; omega), co_rowA x b acc i j (by omega)]
    have : sh i (cv (co (x :: a)) (co b)) j = sh i (fun k => mulL x (co b k)) j ^^^ sh (i + 1) (cv (co a) (co b)) j := by
      unfold sh
      by_cases h1 : j < i
      · rw [if_pos h1, if_pos h1, if_pos (by omega)]; rfl
      · rw [if_neg h1, if_neg h1]
        by_cases h2 : j = i
        · rw [if_pos (by omega), h2, Nat.sub_self]
          show mulL x (co b 0) = mulL x (co b 0) ^^^ 0
          simp
        · rw [if_neg (by omega), show j - i = (j - (i + 1)) + 1 by omega, cv_succ]
          rfl
    rw [this]
    ac_rfl
theorem co_zeros (n i : Nat) : co (List.replicate n 0) i = 0 := by
  unfold co
  rw [List.getD_eq_getElem?_getD, List.getElem?_replicate]
  split <;> rfl
theorem co_prod (a b : List UInt8) (j : Nat) : co (prodL a b) j = cv (co a) (co b) j := by
  unfold prodL
  rw [co_trim, co_prodA b a _ 0 j (by rw [List.length_replicate]; omega), co_zeros]
  simp [sh]
theorem prod_trim (a b : List UInt8) : trimL (prodL a b) = prodL a b := by unfold prodL; exact trim_idem _
theorem sum_trim (a b : List UInt8) : trimL (sumL [a, b]) = sumL [a, b] := by rw [sumL_two]; exact trim_idem _
theorem cv_congr {f f' g g' : Nat → UInt8} (hf : ∀ i, f i = f' i) (hg : ∀ i, g i = g' i) (n : Nat) : cv f g n = cv f' g' n := by
  rw [show f = f' from funext hf, show g = g' from funext hg]
theorem prod_comm (a b : List UInt8) : prodL a b = prodL b a := by
  exact (prod_trim _ _).symm.trans ((trim_ext _ _ fun i => by rw [co_prod, co_prod, cv_comm]).trans (prod_trim _ _))
theorem prod_assoc (a b c : List UInt8) : prodL (prodL a b) c = prodL a (prodL b c) := by
  refine (prod_trim _ _).symm.trans ((trim_ext _ _ fun i => ?_).trans (prod_trim _ _))
  rw [co_prod, co_prod, cv_congr (fun i => co_prod a b i) (fun _ => rfl), cv_congr (f := co a) (fun _ => rfl) (fun i => co_prod b c i), cv_assoc]
theorem prod_sum (a b c : List UInt8) : prodL a (sumL [b, c]) = sumL [prodL a b, prodL a c] := by
  refine (prod_trim _ _).symm.trans ((trim_ext _ _ fun i => ?_).trans (sum_trim _ _))
  rw [co_prod, co_sum, co_prod, co_prod, cv_congr (f := co a) (fun _ => rfl) (fun i => co_sum b c i), cv_addr]

/-! ### The value -/
theorem horner_trim (x : UInt8) : ∀ p : List UInt8, horner x (trimL p) = horner x p
  | [] => rfl
  | c :: p => by
    have ih := horner_trim x p
    unfold trimL
    cases hp : trimL p with
    | nil =>
      rw [hp] at ih
      show horner x (if c = 0 then [] else [c]) = mulL (horner x p) x ^^^ c
      rw [← ih]
      by_cases hc : c = 0
      · rw [if_pos hc, hc]
        show (0 : UInt8) = mulL 0 x ^^^ 0
        rw [zero_mul']; rfl
      · rw [if_neg hc]; rfl
    | cons d q =>
      rw [hp] at ih
      show mulL (horner x (d :: q)) x ^^^ c = mulL (horner x p) x ^^^ c
      rw [ih]
theorem horner_ext (x : UInt8) {p q : List UInt8} (h : ∀ i, co p i = co q i) : horner x p = horner x q := by
  rw [← horner_trim, trim_ext p q h, horner_trim]
theorem horner_xor (x : UInt8) : ∀ a b : List UInt8, horner x (xorL a b) = horner x a ^^^ horner x b
  | [], b => by simp [xorL, horner]
  | c :: a, [] => by simp [xorL, horner]
  | c :: a, d :: b => by
    show mulL (horner x (xorL a b)) x ^^^ (c ^^^ d) = (mulL (horner x a) x ^^^ c) ^^^ (mulL (horner x b) x ^^^ d)
    rw [horner_xor x a b, mulL_add]
    ac_rfl
theorem horner_sum (x : UInt8) (a b : List UInt8) : horner x (sumL [a, b]) = horner x a ^^^ horner x b := by
  rw [sumL_two, horner_trim, horner_xor]
def pm : List UInt8 → List UInt8 → List UInt8
  | [], _ => []
  | x :: a, b => xorL (b.map (mulL x)) (0 :: pm a b)
theorem co_map (c : UInt8) : ∀ (b : List UInt8) (i : Nat), co (b.map (mulL c)) i = mulL c (co b i)
  | [], i => by show (0 : UInt8) = mulL c 0; rw [mul_zero']
  | d :: b, 0 => rfl
  | d :: b, i + 1 => co_map c b i
theorem co_pm (b : List UInt8) : ∀ (a : List UInt8) (i : Nat), co (pm a b) i = cv (co a) (co b) i
  | [], i => (cv_zerol _ _ _ fun _ => rfl).symm
  | x :: a, i => by
    rw [pm, co_xor, co_map]
    cases i with
    | zero =>
      show mulL x (co b 0) ^^^ 0 = mulL x (co b 0)
      simp
    | succ i =>
      rw [co_succ, co_pm b a i]
      rfl
theorem horner_map (x c : UInt8) : ∀ b : List UInt8, horner x (b.map (mulL c)) = mulL c (horner x b)
  | [] => by show (0 : UInt8) = mulL c 0; rw [mul_zero']
  | d :: b => by
    show mulL (horner x (b.map (mulL c))) x ^^^ mulL c d = mulL c (mulL (horner x b) x ^^^ d)
    rw [horner_map x c b, mulL_addr, mul_assoc']
theorem horner_pm (x : UInt8) (b : List UInt8) : ∀ a : List UInt8, horner x (pm a b) = mulL (horner x a) (horner x b)
  | [] => by show (0 : UInt8) = mulL 0 _; rw [zero_mul']
  | c :: a => by
    rw [pm, horner_xor, horner_map]
    show _ ^^^ (mulL (horner x (pm a b)) x ^^^ 0) = mulL (mulL (horner x a) x ^^^ c) (horner x b)
    rw [horner_pm x b a, mulL_add]
    have : mulL (mulL (horner x a) (horner x b)) x = mulL (mulL (horner x a) x) (horner x b) := by ac_rfl
    rw [this]
    simp only [UInt8.xor_zero]
    ac_rfl
theorem horner_prod (x : UInt8) (a b : List UInt8) : horner x (prodL a b) = mulL (horner x a) (horner x b) := by
  rw [← horner_pm]
  exact horner_ext x fun i => by rw [co_prod, co_pm]

/-! ### The degree of a product -/
theorem sz_prod (a b : List UInt8) (ha : trimL a ≠ []) (hb : trimL b ≠ []) : sz (prodL a b) + 1 = sz a + sz b := by
  have h1 : 0 < sz a := List.length_pos_iff.2 ha
  have h2 : 0 < sz b := List.length_pos_iff.2 hb
  have ht := cv_top (sz b - 1) (co b) (fun i hi => sz_co b i (by omega)) (sz a - 1) (co a) fun i hi => sz_co a i (by omega)
  have hne : co (prodL a b) (sz a - 1 + (sz b - 1)) ≠ 0 := by
    rw [co_prod, ht.1]
    intro h
    rcases mul_eq_zero' h with h | h
    · exact trim_last a ha h
    · exact trim_last b hb h
  have := sz_eq (fun i hi => by rw [co_prod]; exact ht.2 i hi) hne
  omega
theorem prod_zero_l (a b : List UInt8) (ha : trimL a = []) : prodL a b = [] := by
  rw [← prod_trim]
  refine trim_zero _ fun i => ?_
  rw [co_prod]
  exact cv_zerol _ _ _ fun i => by rw [← co_trim, ha]; rfl
theorem prod_zero_r (a b : List UInt8) (hb : trimL b = []) : prodL a b = [] := by rw [prod_comm]; exact prod_zero_l b a hb
theorem prod_eq_nil {a b : List UInt8} (h : prodL a b = []) : trimL a = [] ∨ trimL b = [] := by
  by_cases ha : trimL a = []
  · exact .inl ha
  · by_cases hb : trimL b = []
    · exact .inr hb
    · have := sz_prod a b ha hb
      have h1 : 0 < sz a := List.length_pos_iff.2 ha
      have h2 : 0 < sz b := List.length_pos_iff.2 hb
      have h3 : sz (prodL a b) = 0 := by rw [h]; rfl
      omega
theorem sz_prod_le (a b : List UInt8) : sz (prodL a b) ≤ sz a + sz b - 1 := by
  by_cases ha : trimL a = []
  · rw [prod_zero_l a b ha]; exact Nat.zero_le _
  · by_cases hb : trimL b = []
    · rw [prod_zero_r a b hb]; exact Nat.zero_le _
    · have := sz_prod a b ha hb
      omega
theorem sz_sum_le (a b : List UInt8) (n : Nat) (ha : sz a ≤ n) (hb : sz b ≤ n) : sz (sumL [a, b]) ≤ n :=
  sz_le fun i hi => by rw [co_sum, sz_co a i (by omega), sz_co b i (by omega)]; rfl

/-! ### Division -/
theorem divA_ok (b : List UInt8) (inv : UInt8) (hb : 0 < b.length) (hinv : mulL (co b (b.length - 1)) inv = 1) : ∀ (k : Nat) (q r : List UInt8), k ≤ q.length → (0 < k → k + b.length ≤ r.length + 1) → (∀ j, j < k → co q j = 0) → (∀ j, k + b.length ≤ j + 1 → co r j = 0) →
    (∀ n, cv (co (divA b inv k q r).1) (co b) n ^^^ co (divA b inv k q r).2 n = cv (co q) (co b) n ^^^ co r n) ∧ ∀ j, b.length ≤ j + 1 → co (divA b inv k q r).2 j = 0
  | 0, q, r, _, _, _, h4 => ⟨fun n => rfl, fun j hj => h4 j (by omega)⟩
  | k + 1, q, r, h1, h2, h3, h4 => by
    have h2 := h2 (by omega)
    obtain ⟨c, hc⟩ : ∃ c, c = mulL (r.getD (k + b.length - 1) 0) inv := ⟨_, rfl⟩
    have hcr : c = mulL (co r (k + b.length - 1)) inv := hc
    rw [divA, ← hc]
    have hrow : ∀ j, co (rowA c r k b) j = co r j ^^^ sh k (fun i => mulL c (co b i)) j := fun j => co_rowA c b r k j (by omega)
    have hq : ∀ j, co (q.set k c) j = co q j ^^^ (if j = k then c else 0) := fun j => by
      rw [co_set _ _ _ _ (by omega)]
      by_cases h : j = k
      · rw [if_pos h, if_pos h, h, h3 k (by omega)]; simp
      · rw [if_neg h, if_neg h]; simp
    have ih := divA_ok b inv hb hinv k (q.set k c) (rowA c r k b) (by rw [List.length_set]; omega) (fun _ => by rw [rowA_len]; omega)
      (fun j hj => by rw [hq, h3 j (by omega), if_neg (by omega)]; rfl)
      (fun j hj => by
        rw [hrow]
        by_cases hj2 : k + b.length = j + 1
        · have hj3 : j = k + b.length - 1 := by omega
          unfold sh
          rw [if_neg (by omega), show j - k = b.length - 1 by omega, hcr, ← hj3]
          dsimp only
          rw [mul_assoc', mul_comm' inv, hinv, mul_one']
          simp
        · rw [h4 j (by omega)]
          unfold sh
          rw [if_neg (by omega)]
          dsimp only
          rw [co_ge b _ (by omega), mul_zero']
          rfl)
    refine ⟨fun n => ?_, ih.2⟩
    rw [ih.1 n, hrow n, cv_congr (f := co (q.set k c)) (fun j => hq j) (fun _ => rfl), cv_addl (co b) n (co q) (fun j => if j = k then c else 0), cv_delta]
    have : ∀ u v w : UInt8, u ^^^ v ^^^ (w ^^^ v) = u ^^^ w := fun u v w => by
      have : u ^^^ v ^^^ (w ^^^ v) = u ^^^ w ^^^ (v ^^^ v) := by ac_rfl
      rw [this]; simp
    exact this _ _ _
theorem lead_inv (b : List UInt8) (hb : trimL b ≠ []) : mulL (co (trimL b) ((trimL b).length - 1)) (invL ((trimL b).getD ((trimL b).length - 1) 0)) = 1 := by
  refine mul_inv' _ ?_
  show co (trimL b) (sz b - 1) ≠ 0
  rw [co_trim]
  exact trim_last b hb
/-- Any walk of the division, whatever room it has. -/
theorem div_any (a b r0 : List UInt8) (N M : Nat) (hb : trimL b ≠ []) (hr : ∀ i, co r0 i = co a i) (hN : N ≤ M) (h2 : 0 < N → N + sz b ≤ r0.length + 1) (h3 : sz a ≤ N + sz b - 1) :
    (∀ n, cv (co (divA (trimL b) (invL ((trimL b).getD ((trimL b).length - 1) 0)) N (List.replicate M 0) r0).1) (co b) n ^^^ co (divA (trimL b) (invL ((trimL b).getD ((trimL b).length - 1) 0)) N (List.replicate M 0) r0).2 n = co a n) ∧
    ∀ j, sz b ≤ j + 1 → co (divA (trimL b) (invL ((trimL b).getD ((trimL b).length - 1) 0)) N (List.replicate M 0) r0).2 j = 0 := by
  have h0 : 0 < (trimL b).length := List.length_pos_iff.2 hb
  have h := divA_ok (trimL b) _ h0 (lead_inv b hb) N (List.replicate M 0) r0 (by rw [List.length_replicate]; exact hN) h2 (fun j _ => co_zeros _ _) (fun j hj => by rw [hr]; exact sz_co a j (by unfold sz at *; omega))
  refine ⟨fun n => ?_, h.2⟩
  have := h.1 n
  rw [cv_zerol (co (trimL b)) n _ (fun i => co_zeros _ _), hr n, UInt8.zero_xor] at this
  rw [← this]
  congr 1
  exact cv_congr (fun _ => rfl) (fun i => (co_trim b i).symm) n
theorem div_ok (a b : List UInt8) (hb : trimL b ≠ []) : (∀ n, cv (co (divR a b).1) (co b) n ^^^ co (divR a b).2 n = co a n) ∧ ∀ j, sz b ≤ j + 1 → co (divR a b).2 j = 0 := by
  have h0 : 0 < sz b := List.length_pos_iff.2 hb
  exact div_any a b (trimL a) _ _ hb (fun i => co_trim a i) (Nat.le_refl _) (fun h => by unfold sz at *; omega) (by unfold sz at *; omega)
/-- There is but one quotient, and one remainder. -/
theorem div_unique (b q q' r r' : List UInt8) (hb : trimL b ≠ []) (h : ∀ n, cv (co q) (co b) n ^^^ co r n = cv (co q') (co b) n ^^^ co r' n) (hr : ∀ j, sz b ≤ j + 1 → co r j = 0) (hr' : ∀ j, sz b ≤ j + 1 → co r' j = 0) :
    trimL q = trimL q' ∧ trimL r = trimL r' := by
  have h0 : 0 < sz b := List.length_pos_iff.2 hb
  have x3 : ∀ u v w z : UInt8, u ^^^ v = w ^^^ z → u ^^^ w = v ^^^ z := fun u v w z h => by
    have : u ^^^ w = (u ^^^ v) ^^^ v ^^^ w := by rw [UInt8.xor_assoc u, UInt8.xor_self, UInt8.xor_zero]
    rw [this, h]
    have : w ^^^ z ^^^ v ^^^ w = v ^^^ z ^^^ (w ^^^ w) := by ac_rfl
    rw [this, UInt8.xor_self, UInt8.xor_zero]
  have hx : ∀ u v : UInt8, u ^^^ v = 0 → u = v := fun u v h => UInt8.xor_eq_zero_iff.1 h
  have hd : ∀ n, cv (co (xorL q q')) (co b) n = co r n ^^^ co r' n := fun n => by
    rw [cv_congr (fun i => co_xor q q' i) (fun _ => rfl), cv_addl]
    exact x3 _ _ _ _ (h n)
  have hz : trimL (xorL q q') = [] := Classical.byContradiction fun hne => by
    have h1 : 0 < sz (xorL q q') := List.length_pos_iff.2 hne
    have ht := (cv_top (sz b - 1) (co b) (fun i hi => sz_co b i (by omega)) (sz (xorL q q') - 1) (co (xorL q q')) fun i hi => sz_co _ i (by omega)).1
    rw [hd, hr _ (by omega), hr' _ (by omega)] at ht
    rcases mul_eq_zero' (a := co (xorL q q') (sz (xorL q q') - 1)) (b := co b (sz b - 1)) (by rw [← ht]; rfl) with e | e
    · exact trim_last _ hne e
    · exact trim_last b hb e
  have hq : ∀ i, co q i = co q' i := fun i => hx _ _ (by rw [← co_xor, ← co_trim, hz]; rfl)
  refine ⟨trim_ext _ _ hq, trim_ext _ _ fun i => ?_⟩
  refine (hx _ _ ?_)
  rw [← hd i]
  exact cv_zerol _ _ _ fun j => by rw [co_xor, hq j, UInt8.xor_self]
theorem div_sum (a b : List UInt8) (hb : trimL b ≠ []) : sumL [prodL (trimL (divR a b).1) b, trimL (divR a b).2] = trimL a := by
  rw [← sum_trim]
  refine trim_ext _ _ fun i => ?_
  rw [co_sum, co_prod, co_trim, ← (div_ok a b hb).1 i]
  congr 1
  exact cv_congr (fun i => co_trim _ i) (fun _ => rfl) i
theorem div_rem (a b : List UInt8) (hb : trimL b ≠ []) : sz (divR a b).2 < sz b := by
  have h0 : 0 < sz b := List.length_pos_iff.2 hb
  have := sz_le (p := (divR a b).2) (n := sz b - 1) fun j hj => (div_ok a b hb).2 j (by omega)
  omega
end Go.Proofs.YtmkphnlpbngenaaDoor.S27

namespace Go.Proofs.YtmkphnlpbngenaaDoor.S27
open Go Go.Proofs.YtmkphnlpbngenaaDoor.Vc Go.Proofs
set_option maxRecDepth 100000

/-! ### Roots -/
theorem horner_lin (z x : UInt8) : horner z [x, 1] = z ^^^ x := by
  show mulL (mulL 0 z ^^^ 1) z ^^^ x = _
  rw [zero_mul', UInt8.zero_xor, one_mul']
theorem horner_const (z c : UInt8) : horner z [c] = c := by
  show mulL 0 z ^^^ c = c
  rw [zero_mul', UInt8.zero_xor]
theorem trim_lin (x : UInt8) : trimL [x, 1] = [x, 1] := trimL_snoc 1 [x]
theorem sz_lin (x : UInt8) : sz [x, 1] = 2 := by unfold sz; rw [trim_lin]; rfl
theorem xor_zero_iff {a b : UInt8} : a ^^^ b = 0 ↔ a = b := UInt8.xor_eq_zero_iff
theorem sz_one {p : List UInt8} (h : sz p ≤ 1) (z : UInt8) : horner z p = co p 0 := by
  have e : ∀ i, co p i = co [co p 0] i := fun i => by
    cases i with
    | zero => rfl
    | succ i => rw [co_succ]; exact sz_co p _ (by omega)
  rw [horner_ext z e, horner_const]
theorem sum_nil (p : List UInt8) : sumL [p, []] = trimL p := by rw [sumL_two, xorL_nil]
/-- A root is split off. -/
theorem factor (p : List UInt8) (x : UInt8) (h : horner x p = 0) : trimL p = prodL (divQ p [x, 1]) [x, 1] := by
  have hb : trimL [x, 1] ≠ [] := by rw [trim_lin]; simp
  have h1 := div_sum p [x, 1] hb
  have h2 := div_rem p [x, 1] hb
  rw [sz_lin] at h2
  have h3 : horner x (trimL (divR p [x, 1]).2) = 0 := by
    have := congrArg (horner x) h1
    rw [horner_sum, horner_prod, horner_lin, UInt8.xor_self, mul_zero', UInt8.zero_xor] at this
    rw [this, horner_trim, h]
  have h4 : trimL (divR p [x, 1]).2 = [] := by
    refine trim_zero _ fun i => ?_
    cases i with
    | zero => rw [horner_trim, sz_one (by omega)] at h3; exact h3
    | succ i => exact sz_co _ _ (by omega)
  rw [h4, sum_nil] at h1
  rw [← h1]
  exact prod_trim _ _
theorem sz_factor (p : List UInt8) (x : UInt8) (h : horner x p = 0) (hp : trimL p ≠ []) : trimL (divQ p [x, 1]) ≠ [] ∧ sz (divQ p [x, 1]) + 1 = sz p := by
  have h1 := factor p x h
  have hq : trimL (divQ p [x, 1]) ≠ [] := fun e => by
    rw [prod_zero_l _ _ e] at h1
    exact hp h1
  have h2 := sz_prod (divQ p [x, 1]) [x, 1] hq (by rw [trim_lin]; simp)
  rw [sz_lin] at h2
  have h3 : sz p = sz (prodL (divQ p [x, 1]) [x, 1]) := by rw [← h1, sz_trim]
  exact ⟨hq, by omega⟩
/-- There are fewer roots than coefficients. -/
theorem roots_lt : ∀ (xs : List UInt8) (p : List UInt8), xs.Nodup → (∀ x ∈ xs, horner x p = 0) → trimL p ≠ [] → xs.length < sz p
  | [], p, _, _, hp => List.length_pos_iff.2 hp
  | x :: xs, p, hn, h, hp => by
    have h1 := factor p x (h x (by simp))
    obtain ⟨h2, h3⟩ := sz_factor p x (h x (by simp)) hp
    rw [List.nodup_cons] at hn
    have := roots_lt xs (divQ p [x, 1]) hn.2 (fun z hz => by
      have h4 : horner z (trimL p) = 0 := by rw [horner_trim]; exact h z (by simp [hz])
      rw [h1, horner_prod, horner_lin] at h4
      rcases mul_eq_zero' h4 with e | e
      · exact e
      · exact absurd (xor_zero_iff.1 e ▸ hz) hn.1) h2
    simp only [List.length_cons]
    omega
theorem poly_zero (xs : List UInt8) (p : List UInt8) (hn : xs.Nodup) (h : ∀ x ∈ xs, horner x p = 0) (hs : sz p ≤ xs.length) : trimL p = [] :=
  Classical.byContradiction fun hp => by
    have := roots_lt xs p hn h hp
    omega
/-- Polynomials that agree at enough places are one. -/
theorem poly_unique (xs p q : List UInt8) (hn : xs.Nodup) (h : ∀ x ∈ xs, horner x p = horner x q) (hp : sz p ≤ xs.length) (hq : sz q ≤ xs.length) : trimL p = trimL q := by
  have hz : trimL (xorL p q) = [] := poly_zero xs _ hn (fun x hx => by rw [horner_xor, h x hx, UInt8.xor_self]) (sz_le fun i hi => by rw [co_xor, sz_co p i (by omega), sz_co q i (by omega)]; rfl)
  refine trim_ext _ _ fun i => ?_
  have : co (xorL p q) i = 0 := by rw [← co_trim, hz]; rfl
  rw [co_xor] at this
  exact xor_zero_iff.1 this

/-! ### The product of all x - xs[k] -/
theorem roots_val (z : UInt8) : ∀ (xs p : List UInt8), (z ∈ xs → horner z (xs.foldl (fun p x => prodL p [x, 1]) p) = 0) ∧ (horner z p = 0 → horner z (xs.foldl (fun p x => prodL p [x, 1]) p) = 0)
  | [], p => ⟨fun h => by simp at h, fun h => h⟩
  | x :: xs, p => by
    obtain ⟨h1, h2⟩ := roots_val z xs (prodL p [x, 1])
    refine ⟨fun h => ?_, fun h => h2 (by rw [horner_prod, h, zero_mul'])⟩
    rcases List.mem_cons.1 h with e | e
    · exact h2 (by rw [horner_prod, horner_lin, e, UInt8.xor_self, mul_zero'])
    · exact h1 e
theorem rootsL_zero (xs : List UInt8) (z : UInt8) (h : z ∈ xs) : horner z (rootsL xs) = 0 := (roots_val z xs [1]).1 h
theorem roots_sz : ∀ (xs p : List UInt8), trimL p ≠ [] → trimL (xs.foldl (fun p x => prodL p [x, 1]) p) ≠ [] ∧ sz (xs.foldl (fun p x => prodL p [x, 1]) p) = sz p + xs.length
  | [], p, h => ⟨h, rfl⟩
  | x :: xs, p, h => by
    have hl : trimL [x, 1] ≠ [] := by rw [trim_lin]; simp
    have h1 := sz_prod p [x, 1] h hl
    rw [sz_lin] at h1
    have h2 : trimL (prodL p [x, 1]) ≠ [] := fun e => by
      rw [prod_trim] at e
      rcases prod_eq_nil e with e | e
      · exact h e
      · exact hl e
    obtain ⟨h3, h4⟩ := roots_sz xs (prodL p [x, 1]) h2
    exact ⟨h3, by show sz (xs.foldl _ (prodL p [x, 1])) = _; rw [h4]; simp only [List.length_cons]; omega⟩
theorem trim_one : trimL [1] = [1] := trimL_snoc 1 []
theorem rootsL_sz (xs : List UInt8) : trimL (rootsL xs) ≠ [] ∧ sz (rootsL xs) = xs.length + 1 := by
  obtain ⟨h1, h2⟩ := roots_sz xs [1] (by rw [trim_one]; simp)
  refine ⟨h1, ?_⟩
  have : sz [1] = 1 := by unfold sz; rw [trim_one]; rfl
  unfold rootsL
  omega

/-! ### The program's interpolation -/
theorem part_val (xs : List UInt8) (hn : xs.Nodup) (x y z : UInt8) (hx : x ∈ xs) (hz : z ∈ xs) : horner z (partL (rootsL xs) x y) = if z = x then y else 0 := by
  have hr := rootsL_zero xs
  have h1 := factor (rootsL xs) x (hr x hx)
  have hs := sz_factor (rootsL xs) x (hr x hx) (rootsL_sz xs).1
  have hq : ∀ z ∈ xs, z ≠ x → horner z (divQ (rootsL xs) [x, 1]) = 0 := fun z hz hne => by
    have h4 : horner z (trimL (rootsL xs)) = 0 := by rw [horner_trim]; exact hr z hz
    rw [h1, horner_prod, horner_lin] at h4
    rcases mul_eq_zero' h4 with e | e
    · exact e
    · exact absurd (xor_zero_iff.1 e) hne
  have hx0 : horner x (divQ (rootsL xs) [x, 1]) ≠ 0 := fun e => by
    have := roots_lt xs (divQ (rootsL xs) [x, 1]) hn (fun z hz => by
      by_cases hzx : z = x
      · rw [hzx]; exact e
      · exact hq z hz hzx) hs.1
    have := (rootsL_sz xs).2
    omega
  unfold partL
  rw [horner_prod, horner_const]
  by_cases hzx : z = x
  · rw [if_pos hzx, hzx]
    have : ∀ a b : UInt8, a ≠ 0 → mulL a (mulL b (invL a)) = b := fun a b ha => by
      rw [mul_comm' b, ← mul_assoc', mul_inv' a ha, one_mul']
    exact this _ _ hx0
  · rw [if_neg hzx, hq z hz hzx, zero_mul']
theorem part_sz (xs : List UInt8) (x y : UInt8) (hx : x ∈ xs) : sz (partL (rootsL xs) x y) ≤ xs.length := by
  have hs := sz_factor (rootsL xs) x (rootsL_zero xs x hx) (rootsL_sz xs).1
  have h1 := (rootsL_sz xs).2
  unfold partL
  have h2 := sz_prod_le (divQ (rootsL xs) [x, 1]) [mulL y (invL (horner x (divQ (rootsL xs) [x, 1])))]
  have h3 := sz_len [mulL y (invL (horner x (divQ (rootsL xs) [x, 1])))]
  simp only [List.length_cons, List.length_nil] at h3
  omega
/-- The sum of the values that belong to a place. -/
def at1 (z : UInt8) (zs : List (UInt8 × UInt8)) (s : UInt8) : UInt8 := zs.foldl (fun s q => s ^^^ (if z = q.1 then q.2 else 0)) s
theorem thrF_val (xs : List UInt8) (hn : xs.Nodup) (z : UInt8) (hz : z ∈ xs) : ∀ (zs : List (UInt8 × UInt8)) (p : List UInt8), (∀ q ∈ zs, q.1 ∈ xs) → horner z (zs.foldl (fun p q => sumL [p, partL (rootsL xs) q.1 q.2]) p) = at1 z zs (horner z p)
  | [], p, _ => rfl
  | q :: zs, p, h => by
    show horner z (zs.foldl _ (sumL [p, partL (rootsL xs) q.1 q.2])) = at1 z zs (horner z p ^^^ (if z = q.1 then q.2 else 0))
    rw [thrF_val xs hn z hz zs _ (fun r hr => h r (by simp [hr])), horner_sum, part_val xs hn q.1 q.2 z (h q (by simp)) hz]
theorem at1_zip (z : UInt8) : ∀ (xs ys : List UInt8) (s : UInt8), xs.Nodup → xs.length = ys.length → (z ∉ xs → at1 z (xs.zip ys) s = s) ∧ ∀ k, k < xs.length → xs.getD k 0 = z → at1 z (xs.zip ys) s = s ^^^ ys.getD k 0
  | [], ys, s, _, _ => ⟨fun _ => rfl, fun k h => by simp at h⟩
  | x :: xs, [], s, _, h => by simp at h
  | x :: xs, y :: ys, s, hn, hl => by
    rw [List.nodup_cons] at hn
    have ih := fun s => at1_zip z xs ys s hn.2 (by simpa using hl)
    refine ⟨fun h => ?_, fun k hk he => ?_⟩
    · have hne : z ≠ x := fun e => h (by simp [e])
      show at1 z (xs.zip ys) (s ^^^ if z = x then y else 0) = s
      rw [if_neg hne, (ih _).1 (fun hm => h (by simp [hm]))]
      simp
    · show at1 z (xs.zip ys) (s ^^^ if z = x then y else 0) = _
      cases k with
      | zero =>
        have e : x = z := he
        rw [if_pos e.symm, (ih _).1 (e ▸ hn.1)]
        rfl
      | succ k =>
        have he : xs.getD k 0 = z := he
        have hk : k < xs.length := by simpa using hk
        have hm : z ∈ xs := by rw [← he]; simp [List.getElem?_eq_getElem hk]
        have hne : z ≠ x := fun e => hn.1 (e ▸ hm)
        rw [if_neg hne, (ih _).2 k hk he]
        simp
theorem thrL_val (xs ys : List UInt8) (h : rightP xs ys) (k : Nat) (hk : k < xs.length) : horner (xs.getD k 0) (thrL xs ys) = ys.getD k 0 := by
  have hm : xs.getD k 0 ∈ xs := by simp [List.getElem?_eq_getElem hk]
  have h1 := thrF_val xs h.1 _ hm (xs.zip ys) [] fun q hq => (List.of_mem_zip hq).1
  have h2 := (at1_zip (xs.getD k 0) xs ys (horner (xs.getD k 0) []) h.1 h.2).2 k hk rfl
  unfold thrL thrF
  rw [h1, h2]
  show 0 ^^^ _ = _
  simp
theorem thrF_sz (xs : List UInt8) : ∀ (zs : List (UInt8 × UInt8)) (p : List UInt8), (∀ q ∈ zs, q.1 ∈ xs) → sz p ≤ xs.length → sz (zs.foldl (fun p q => sumL [p, partL (rootsL xs) q.1 q.2]) p) ≤ xs.length
  | [], p, _, h => h
  | q :: zs, p, hq, h => thrF_sz xs zs _ (fun r hr => hq r (by simp [hr])) (sz_sum_le _ _ _ h (part_sz xs q.1 q.2 (hq q (by simp))))
theorem thrL_sz (xs ys : List UInt8) : sz (thrL xs ys) ≤ xs.length := thrF_sz xs _ [] (fun q hq => (List.of_mem_zip hq).1) (Nat.zero_le _)
theorem fold_trim {α : Type} (f : List UInt8 → α → List UInt8) (hf : ∀ p a, trimL (f p a) = f p a) : ∀ (l : List α) (p : List UInt8), trimL p = p → trimL (l.foldl f p) = l.foldl f p
  | [], p, h => h
  | a :: l, p, _ => fold_trim f hf l _ (hf p a)
theorem thrL_trim (xs ys : List UInt8) : trimL (thrL xs ys) = thrL xs ys := fold_trim _ (fun p q => sum_trim _ _) _ _ rfl
/-- What it returns is the one polynomial through the points. -/
theorem thrL_unique (xs ys p : List UInt8) (h : rightP xs ys) (hp : sz p ≤ xs.length) (hv : ∀ k, k < xs.length → horner (xs.getD k 0) p = ys.getD k 0) : thrL xs ys = trimL p := by
  rw [← thrL_trim]
  refine poly_unique xs _ _ h.1 (fun x hx => ?_) (thrL_sz xs ys) hp
  obtain ⟨k, hk, rfl⟩ := List.mem_iff_getElem.1 hx
  have e : xs.getD k 0 = xs[k] := by simp [List.getElem?_eq_getElem hk]
  rw [← e, thrL_val xs ys h k hk, hv k hk]
end Go.Proofs.YtmkphnlpbngenaaDoor.S27

namespace Go.Proofs.YtmkphnlpbngenaaDoor.S27
open Go

/-! ### strings of bytes -/
def fillF (f : Nat → UInt8) (n k : Nat) : List UInt8 := (List.range n).map fun i => if i < k then f i else 0
theorem fill_len (f : Nat → UInt8) (n k : Nat) : (fillF f n k).length = n := by simp [fillF]
theorem fill_zero (f : Nat → UInt8) (n : Nat) : fillF f n 0 = List.replicate n 0 := by
  apply List.ext_getElem
  · simp [fillF]
  · intro i h1 h2; simp [fillF]
theorem fill_set (f : Nat → UInt8) {n k : Nat} (h : k < n) : (fillF f n k).set k (f k) = fillF f n (k + 1) := by
  apply List.ext_getElem
  · simp [fillF]
  · intro i h1 h2
    rw [List.getElem_set]
    simp only [fillF, List.getElem_map, List.getElem_range]
    by_cases e : k = i
    · subst e; simp
    · rw [if_neg e]
      by_cases g : i < k
      · rw [if_pos g, if_pos (by omega)]
      · rw [if_neg g, if_neg (by omega)]
theorem fill_all (f : Nat → UInt8) (n : Nat) : fillF f n n = (List.range n).map f := by
  apply List.map_congr_left
  intro i hi
  rw [List.mem_range] at hi
  rw [if_pos hi]
def scaleF (c : UInt8) (s : List UInt8) (i : Nat) : UInt8 := mulL c (s.getD i 0)
def scaleB (c : UInt8) (s : List UInt8) : List UInt8 := (List.range s.length).map (scaleF c s)
def sumG (a b : List UInt8) (i : Nat) : UInt8 := if i < b.length then a.getD i 0 ^^^ b.getD i 0 else a.getD i 0
def sumF (a b : List UInt8) : List UInt8 := (List.range a.length).map (sumG a b)
def sumB (a b : List UInt8) : List UInt8 := if a.length < b.length then sumF b a else sumF a b
theorem scale_len (c : UInt8) (s : List UInt8) : (scaleB c s).length = s.length := by simp [scaleB]
theorem sum_len (a b : List UInt8) : (sumB a b).length = max a.length b.length := by
  unfold sumB
  split <;> simp [sumF] <;> omega
end Go.Proofs.YtmkphnlpbngenaaDoor.S27

namespace Go.Proofs.YtmkphnlpbngenaaDoor.S27
open Go Go.Proofs.YtmkphnlpbngenaaDoor.Vc Go.Proofs
set_option maxRecDepth 100000
set_option linter.unusedVariables false

def sGSc : List V → Option (Prop × V × List Blk)
  | [.int .i64 k, .rp false .u8 c 0, .rp false .str s 0] => some (0 ≤ k ∧ k < (s.length : Int), .u8 (scaleF c s k.toNat), [])
  | _ => none
set_option maxHeartbeats 1000000 in
theorem bGSc (k : Int) (c : UInt8) (s : List UInt8) (hp0 : 0 ≤ k) (hp1 : k < (s.length : Int)) : bodyP (En C23 tys G6 []) Tryd.f65 [.k] [.int .i64 k, .rp false .u8 c 0, .rp false .str s 0] (.u8 (scaleF c s k.toNat)) [] := by
  refine ⟨by kernel_rfl, ⟨by show (0 : Int) ≤ k; omega, by show k < (s.length : Int); omega⟩, trivial, ?_⟩
  exact ⟨rfl, rfl, rfl, rfl⟩
def CGSc : List (Nat × Con) := (65, pureC [.v (.int .i64), .ref .u8, .ref .str] sGSc) :: C23
theorem kGSc : Known Tryd.prog (En CGSc tys G6 []) := k23.add Tryd.func65 Tryd.call65 [.k] fun ds p v bs h hp => by
  unfold sGSc at h
  split at h <;> simp only [Option.some.injEq, Prod.mk.injEq, reduceCtorEq] at h
  obtain ⟨rfl, rfl, rfl⟩ := h
  exact bGSc _ _ _ hp.1 hp.2
def sGSm : List V → Option (Prop × V × List Blk)
  | [.int .i64 k, .rp false .str b 0, .rp false .str a 0] => some (0 ≤ k ∧ k < (a.length : Int), .u8 (sumG a b k.toNat), [])
  | _ => none
set_option maxHeartbeats 1000000 in
theorem bGSm (k : Int) (b : List UInt8) (a : List UInt8) (hp0 : 0 ≤ k) (hp1 : k < (a.length : Int)) : bodyP (En CGSc tys G6 []) Tryd.f81 [.k] [.int .i64 k, .rp false .str b 0, .rp false .str a 0] (.u8 (sumG a b k.toNat)) [] := by
  refine ⟨fun h0 => ?_, fun h0 => ?_⟩
  · replace h0 : k < (b.length : Int) := h0
    refine ⟨by kernel_rfl, ⟨by show (0 : Int) ≤ k; omega, by show k < (a.length : Int); omega⟩, ⟨by show (0 : Int) ≤ k; omega, by show k < (b.length : Int); omega⟩, ?_⟩
    rw [show sumG a b k.toNat = _ from if_pos (by omega)]
    exact ⟨rfl, rfl, rfl, rfl⟩
  · replace h0 : ¬ (k < (b.length : Int)) := h0
    refine ⟨⟨by show (0 : Int) ≤ k; omega, by show k < (a.length : Int); omega⟩, ?_⟩
    rw [show sumG a b k.toNat = _ from if_neg (by omega)]
    exact ⟨rfl, rfl, rfl, rfl⟩
def CGSm : List (Nat × Con) := (81, pureC [.v (.int .i64), .ref .str, .ref .str] sGSm) :: CGSc
theorem kGSm : Known Tryd.prog (En CGSm tys G6 []) := kGSc.add Tryd.func81 Tryd.call81 [.k] fun ds p v bs h hp => by
  unfold sGSm at h
  split at h <;> simp only [Option.some.injEq, Prod.mk.injEq, reduceCtorEq] at h
  obtain ⟨rfl, rfl, rfl⟩ := h
  exact bGSm _ _ _ hp.1 hp.2
set_option maxHeartbeats 1000000 in
theorem bGBu0 (z : Int) (c : UInt8) (s : List UInt8) (hp0 : z = (s.length : Int)) (hp1 : s.length ≤ 1000000000) : bodyP (En CGSm tys G6 []) Tryd.f64 [.k] [.int .i64 z, .fn 65 [.rp false .u8 c 0, .rp false .str s 0]] (.str (scaleB c s)) [] := by
  refine ⟨⟨rfl, by show (0 : Int) ≤ z; omega, by show z ≤ (1000000000 : Int); omega⟩, 0, [(1, .k), (5, .o .u8), (9, .k), (10, .k)], fun n vs H => ∃ (k : Nat), (k : Int) ≤ z ∧ n = z.toNat - k ∧ vs = [.fn 65 [.rp false .u8 c 0, .rp false .str s 0], .own .u8 0, .int .i64 z, .int .i64 (k : Int)] ∧ H = [.row true .u8 (fillF (scaleF c s) z.toNat k)], ⟨rfl, z.toNat, 0, by omega, by omega, rfl, by rw [fill_zero]; rfl⟩, ?_⟩
  rintro n vs H ⟨k, hc1_0, rfl, rfl, rfl⟩
  refine ⟨fun h0 => ?_, fun h0 => ?_⟩
  · replace h0 : (k : Int) < z := h0
    have hl := fill_len (scaleF c s) z.toNat k
    refine ⟨rfl, ⟨by show 0 ≤ (k : Int); first | omega | assumption, by show (k : Int) < (s.length : Int); first | omega | assumption⟩, ⟨by show (0 : Int) ≤ (k : Int); omega, by show (k : Int) < ((fillF (scaleF c s) z.toNat k).length : Int); omega⟩, ⟨rfl, rfl⟩, ⟨by show (-9223372036854775808 : Int) ≤ ((k : Int) + 1); omega, by show ((k : Int) + 1) ≤ (9223372036854775807 : Int); omega⟩, ?_⟩
    exact ⟨rfl, z.toNat - (k + 1), by omega, k + 1, by omega, rfl, rfl, by rw [← fill_set _ (by omega : k < z.toNat)]; rfl⟩
  · replace h0 : ¬ ((k : Int) < z) := h0
    rw [show k = z.toNat by omega, fill_all, show z.toNat = s.length by omega]
    exact ⟨rfl, rfl, rfl, rfl⟩
set_option maxHeartbeats 1000000 in
theorem bGBu1 (z : Int) (b : List UInt8) (a : List UInt8) (hp0 : z = (a.length : Int)) (hp1 : a.length ≤ 1000000000) : bodyP (En CGSm tys G6 []) Tryd.f64 [.k] [.int .i64 z, .fn 81 [.rp false .str b 0, .rp false .str a 0]] (.str (sumF a b)) [] := by
  refine ⟨⟨rfl, by show (0 : Int) ≤ z; omega, by show z ≤ (1000000000 : Int); omega⟩, 0, [(1, .k), (5, .o .u8), (9, .k), (10, .k)], fun n vs H => ∃ (k : Nat), (k : Int) ≤ z ∧ n = z.toNat - k ∧ vs = [.fn 81 [.rp false .str b 0, .rp false .str a 0], .own .u8 0, .int .i64 z, .int .i64 (k : Int)] ∧ H = [.row true .u8 (fillF (sumG a b) z.toNat k)], ⟨rfl, z.toNat, 0, by omega, by omega, rfl, by rw [fill_zero]; rfl⟩, ?_⟩
  rintro n vs H ⟨k, hc1_0, rfl, rfl, rfl⟩
  refine ⟨fun h0 => ?_, fun h0 => ?_⟩
  · replace h0 : (k : Int) < z := h0
    have hl := fill_len (sumG a b) z.toNat k
    refine ⟨rfl, ⟨by show 0 ≤ (k : Int); first | omega | assumption, by show (k : Int) < (a.length : Int); first | omega | assumption⟩, ⟨by show (0 : Int) ≤ (k : Int); omega, by show (k : Int) < ((fillF (sumG a b) z.toNat k).length : Int); omega⟩, ⟨rfl, rfl⟩, ⟨by show (-9223372036854775808 : Int) ≤ ((k : Int) + 1); omega, by show ((k : Int) + 1) ≤ (9223372036854775807 : Int); omega⟩, ?_⟩
    exact ⟨rfl, z.toNat - (k + 1), by omega, k + 1, by omega, rfl, rfl, by rw [← fill_set _ (by omega : k < z.toNat)]; rfl⟩
  · replace h0 : ¬ ((k : Int) < z) := h0
    rw [show k = z.toNat by omega, fill_all, show z.toNat = a.length by omega]
    exact ⟨rfl, rfl, rfl, rfl⟩
def sGBu : List V → Option (Prop × V × List Blk)
  | [.int .i64 z, .fn 65 [.rp false .u8 c 0, .rp false .str s 0]] => some (z = (s.length : Int) ∧ s.length ≤ 1000000000, .str (scaleB c s), [])
  | [.int .i64 z, .fn 81 [.rp false .str b 0, .rp false .str a 0]] => some (z = (a.length : Int) ∧ a.length ≤ 1000000000, .str (sumF a b), [])
  | _ => none
def CGBu : List (Nat × Con) := (64, pureC [.v (.int .i64), .fn [(65, [.ref .u8, .ref .str]), (81, [.ref .str, .ref .str])]] sGBu) :: CGSm
theorem kGBu : Known Tryd.prog (En CGBu tys G6 []) := kGSm.add Tryd.func64 Tryd.call64 [.k] fun ds p v bs h hp => by
  unfold sGBu at h
  split at h <;> simp only [Option.some.injEq, Prod.mk.injEq, reduceCtorEq] at h
  · obtain ⟨rfl, rfl, rfl⟩ := h
    exact bGBu0 _ _ _ hp.1 hp.2
  · obtain ⟨rfl, rfl, rfl⟩ := h
    exact bGBu1 _ _ _ hp.1 hp.2
def sGScl : List V → Option (Prop × V × List Blk)
  | [.u8 c, .str s] => some (s.length ≤ 1000000000, .str (scaleB c s), [])
  | _ => none
set_option maxHeartbeats 1000000 in
theorem bGScl (c : UInt8) (s : List UInt8) (hp0 : s.length ≤ 1000000000) : bodyP (En CGBu tys G6 []) Tryd.f52 [.k] [.u8 c, .str s] (.str (scaleB c s)) [] := by
  refine ⟨rfl, ⟨by show (s.length : Int) = (s.length : Int); first | omega | assumption, by show s.length ≤ 1000000000; first | omega | assumption⟩, ?_⟩
  exact ⟨rfl, rfl, rfl, rfl⟩
def CGScl : List (Nat × Con) := (52, pureC [.v .u8, .v .str] sGScl) :: CGBu
theorem kGScl : Known Tryd.prog (En CGScl tys G6 []) := kGBu.add Tryd.func52 Tryd.call52 [.k] fun ds p v bs h hp => by
  unfold sGScl at h
  split at h <;> simp only [Option.some.injEq, Prod.mk.injEq, reduceCtorEq] at h
  obtain ⟨rfl, rfl, rfl⟩ := h
  exact bGScl _ _ hp
def sGSum : List V → Option (Prop × V × List Blk)
  | [.str a, .str b] => some (a.length ≤ 1000000000 ∧ b.length ≤ 1000000000, .str (sumB a b), [])
  | _ => none
set_option maxHeartbeats 1000000 in
theorem bGSum (a : List UInt8) (b : List UInt8) (hp0 : a.length ≤ 1000000000) (hp1 : b.length ≤ 1000000000) : bodyP (En CGScl tys G6 []) Tryd.f66 [.k] [.str a, .str b] (.str (sumB a b)) [] := by
  refine ⟨fun h0 => ?_, fun h0 => ?_⟩
  · replace h0 : (a.length : Int) < (b.length : Int) := h0
    refine ⟨⟨rfl, rfl, rfl⟩, ⟨rfl, rfl, rfl⟩, rfl, ⟨by show (b.length : Int) = (b.length : Int); first | omega | assumption, by show b.length ≤ 1000000000; first | omega | assumption⟩, ?_⟩
    rw [show sumB a b = sumF b a from if_pos (by omega)]
    exact ⟨rfl, rfl, rfl, rfl⟩
  · replace h0 : ¬ ((a.length : Int) < (b.length : Int)) := h0
    refine ⟨rfl, ⟨by show (a.length : Int) = (a.length : Int); first | omega | assumption, by show a.length ≤ 1000000000; first | omega | assumption⟩, ?_⟩
    rw [show sumB a b = sumF a b from if_neg (by omega)]
    exact ⟨rfl, rfl, rfl, rfl⟩
def CGSum : List (Nat × Con) := (66, pureC [.v .str, .v .str] sGSum) :: CGScl
theorem kGSum : Known Tryd.prog (En CGSum tys G6 []) := kGScl.add Tryd.func66 Tryd.call66 [.k] fun ds p v bs h hp => by
  unfold sGSum at h
  split at h <;> simp only [Option.some.injEq, Prod.mk.injEq, reduceCtorEq] at h
  obtain ⟨rfl, rfl, rfl⟩ := h
  exact bGSum _ _ hp.1 hp.2
end Go.Proofs.YtmkphnlpbngenaaDoor.S27

namespace Go.Proofs.YtmkphnlpbngenaaDoor.S27
open Go

/-! ### lists -/
theorem dropD {α : Type} (d : α) (l : List α) (k : Nat) (h : k < l.length) : l.drop k = l.getD k d :: l.drop (k + 1) := by
  rw [List.drop_eq_getElem_cons h]
  simp [List.getD_eq_getElem?_getD, h]
theorem takeD {α : Type} (d : α) (l : List α) (k : Nat) (h : k < l.length) : l.take (k + 1) = l.take k ++ [l.getD k d] := by
  rw [List.take_succ_eq_append_getElem h]
  simp [List.getD_eq_getElem?_getD, h]
theorem getD_mem {α : Type} (d : α) (l : List α) (k : Nat) (h : k < l.length) : l.getD k d ∈ l := by
  simp [List.getD_eq_getElem?_getD, h]
theorem getD_mem' {α : Type} {d : α} {l : List α} {x : α} (h : x ∈ l) : ∃ k, k < l.length ∧ l.getD k d = x := by
  obtain ⟨k, hk, e⟩ := List.mem_iff_getElem.1 h
  exact ⟨k, hk, by simp [List.getD_eq_getElem?_getD, hk, e]⟩
theorem all_bad {α : Type} {d : α} {p : α → Bool} {l : List α} {k : Nat} (hk : k < l.length) (hc : (l.drop k).all p = l.all p) (h : p (l.getD k d) = false) : l.all p = false := by
  rw [← hc, dropD d l k hk, List.all_cons, h, Bool.false_and]
theorem all_next {α : Type} {d : α} {p : α → Bool} {l : List α} {k : Nat} (hk : k < l.length) (hc : (l.drop k).all p = l.all p) (h : p (l.getD k d) = true) : (l.drop (k + 1)).all p = l.all p := by
  rw [← hc, dropD d l k hk, List.all_cons, h, Bool.true_and]
theorem all_stop {α : Type} {p : α → Bool} {l : List α} {k : Nat} (hk : l.length ≤ k) (hc : (l.drop k).all p = l.all p) : l.all p = true := by
  rw [← hc, List.drop_eq_nil_of_le hk]; rfl
theorem drop_cons {α : Type} {l r : List α} {x d : α} {k : Nat} (h : l.drop k = x :: r) : k < l.length ∧ l.getD k d = x ∧ l.drop (k + 1) = r := by
  have hk : k < l.length := by
    rcases Nat.lt_or_ge k l.length with g | g
    · exact g
    · rw [List.drop_eq_nil_of_le g] at h; cases h
  rw [dropD d l k hk] at h
  injection h with h1 h2
  exact ⟨hk, h1, h2⟩
theorem drop_nil {α : Type} {l : List α} {k : Nat} (hk : k ≤ l.length) (h : l.drop k = []) : k = l.length := by
  have := List.drop_eq_nil_iff.1 h; omega

/-! ### rows of strings -/
abbrev Rw := List (List UInt8)
def sumAll (l : Rw) : List UInt8 := (l.drop 1).foldl sumB (l.getD 0 [])
theorem foldl_len {N : Nat} : ∀ (l : Rw) (s : List UInt8), s.length ≤ N → (∀ x ∈ l, x.length ≤ N) → (l.foldl sumB s).length ≤ N
  | [], s, h, _ => h
  | x :: l, s, h, hl => foldl_len l (sumB s x) (by rw [sum_len]; have := hl x (by simp); omega) fun y hy => hl y (by simp [hy])
theorem foldl_snoc (l : Rw) (s : List UInt8) (k : Nat) (h : k < l.length) : (l.take (k + 1)).foldl sumB s = sumB ((l.take k).foldl sumB s) (l.getD k []) := by
  rw [takeD [] l k h, List.foldl_append]; rfl
def atL : Rw → UInt8 → List UInt8
  | [], _ => []
  | [s], _ => s
  | s :: t :: r, x => sumB (scaleB x (atL (t :: r) x)) s
theorem atL_drop (l : Rw) (x : UInt8) (k : Nat) (h : k + 1 < l.length) : atL (l.drop k) x = sumB (scaleB x (atL (l.drop (k + 1)) x)) (l.getD k []) := by
  rw [dropD [] l k (by omega), dropD [] l (k + 1) h]
  rfl
theorem atL_last (l : Rw) (x : UInt8) (h : 1 ≤ l.length) : atL (l.drop (l.length - 1)) x = l.getD (l.length - 1) [] := by
  rw [dropD [] l (l.length - 1) (by omega), show l.length - 1 + 1 = l.length by omega, List.drop_length]; rfl
theorem atL_len {N : Nat} : ∀ (l : Rw) (x : UInt8), (∀ s ∈ l, s.length ≤ N) → (atL l x).length ≤ N
  | [], x, _ => Nat.zero_le _
  | [s], x, h => h s (by simp)
  | s :: t :: r, x, h => by
    rw [atL, sum_len, scale_len]
    have h1 := atL_len (t :: r) x fun y hy => h y (by simp [hy])
    have h2 := h s (by simp)
    omega
theorem drop_all {α : Type} {P : α → Prop} {l : List α} (h : ∀ s ∈ l, P s) (k : Nat) : ∀ s ∈ l.drop k, P s := fun s hs => h s (List.mem_of_mem_drop hs)
theorem two_len {a b : List UInt8} {N : Nat} (h1 : a.length ≤ N) (h2 : b.length ≤ N) : ∀ s ∈ [a, b], s.length ≤ N := fun s hs => by
  rcases List.mem_cons.1 hs with e | hs
  · rw [e]; exact h1
  · rw [List.mem_singleton.1 hs]; exact h2
def pt (h : Int) : UInt8 := UInt8.ofNat ((h + 1) % 256).toNat
def n0 (r : Rw) : Nat := (r.getD 0 []).length
def rightB (r : Rw) : Bool := decide (1 ≤ r.length) && decide (r.length < 12) && r.all fun s => decide (s.length = n0 r) && decide (s.length ≤ 4096)
theorem right_ok {r : Rw} (h : rightB r = true) : 1 ≤ r.length ∧ r.length < 12 ∧ (∀ s ∈ r, s.length = n0 r) ∧ n0 r ≤ 4096 := by
  unfold rightB at h
  simp only [Bool.and_eq_true, decide_eq_true_eq, List.all_eq_true] at h
  obtain ⟨⟨h1, h2⟩, h3⟩ := h
  refine ⟨h1, h2, fun s hs => (h3 s hs).1, ?_⟩
  have := h3 _ (getD_mem [] r 0 (by omega))
  exact this.2
theorem right_len {r : Rw} (h : rightB r = true) : ∀ s ∈ r, s.length ≤ 4096 := fun s hs => by
  obtain ⟨_, _, h3, h4⟩ := right_ok h
  rw [h3 s hs]; exact h4
theorem right_no1 {r : Rw} (h : r.length < 1 ∨ 12 ≤ r.length) : rightB r = false := by
  unfold rightB
  rcases h with h | h
  · rw [decide_eq_false (by omega : ¬ 1 ≤ r.length)]; rfl
  · rw [decide_eq_false (by omega : ¬ r.length < 12)]; simp
theorem right_all {r : Rw} (h1 : 1 ≤ r.length) (h2 : r.length < 12) : rightB r = r.all fun s => decide (s.length = n0 r) && decide (s.length ≤ 4096) := by
  unfold rightB
  rw [decide_eq_true h1, decide_eq_true h2]; rfl
def alikeP (a b : Rw) : Prop := a.length = b.length ∧ n0 a = n0 b
instance (a b : Rw) : Decidable (alikeP a b) := by unfold alikeP; infer_instance
def agrP (a : Rw) (h : Int) (b : Rw) (o : Int) : Prop := atL a (pt o) = atL b (pt h)
instance (a : Rw) (h : Int) (b : Rw) (o : Int) : Decidable (agrP a h b o) := by unfold agrP; infer_instance
def knw (h : Int) : Prop := 0 ≤ h ∧ h < 12
instance (h : Int) : Decidable (knw h) := by unfold knw; infer_instance
def valE (r : Rw) (h : Int) : Int := if rightB r = true then (if knw h then 0 else 8) else 1
def valS (r : Rw) (h : Int) : List UInt8 := if valE r h = 0 then atL r (pt h) else []
def agE (a : Rw) (h : Int) (b : Rw) (o : Int) : Int := if rightB a = true ∧ rightB b = true ∧ alikeP a b then (if knw h ∧ knw o then 0 else 8) else 1
def agQ (a : Rw) (h : Int) (b : Rw) (o : Int) : Prop := agE a h b o = 0 ∧ agrP a h b o
instance (a : Rw) (h : Int) (b : Rw) (o : Int) : Decidable (agQ a h b o) := by unfold agQ; infer_instance
end Go.Proofs.YtmkphnlpbngenaaDoor.S27

namespace Go.Proofs.YtmkphnlpbngenaaDoor.S27
open Go Go.Proofs.YtmkphnlpbngenaaDoor.Vc Go.Proofs
set_option maxRecDepth 100000
set_option linter.unusedVariables false

def sKnw : List V → Option (Prop × V × List Blk)
  | [.int .i64 h] => some (True, .b (knw h), [])
  | _ => none
set_option maxHeartbeats 1000000 in
theorem bKnw (h : Int)  : bodyP (En CGSum tys G6 []) Tryd.f42 [.k] [.int .i64 h] (.b (knw h)) [] := by
  refine ⟨fun h0 => ?_, fun h0 => ?_⟩
  · replace h0 : 0 ≤ h := h0
    exact ⟨rfl, rfl, congrArg V.b (propext (by unfold knw; constructor <;> intro g <;> first | omega | exact Bool.noConfusion g | (exfalso; omega))), rfl⟩
  · replace h0 : ¬ (0 ≤ h) := h0
    exact ⟨rfl, rfl, congrArg V.b (propext (by unfold knw; constructor <;> intro g <;> first | omega | exact Bool.noConfusion g | (exfalso; omega))), rfl⟩
def CKnw : List (Nat × Con) := (42, pureC [.v (.int .i64)] sKnw) :: CGSum
theorem kKnw : Known Tryd.prog (En CKnw tys G6 []) := kGSum.add Tryd.func42 Tryd.call42 [.k] fun ds p v bs h hp => by
  unfold sKnw at h
  split at h <;> simp only [Option.some.injEq, Prod.mk.injEq, reduceCtorEq] at h
  obtain ⟨rfl, rfl, rfl⟩ := h
  exact bKnw _
def sSumA : List V → Option (Prop × V × List Blk)
  | [.sl false .str l] => some (1 ≤ l.length ∧ l.length ≤ 1000000 ∧ (∀ x ∈ l, x.length ≤ 1048576), .str (sumAll l), [])
  | _ => none
set_option maxHeartbeats 1000000 in
theorem bSumA (l : List (List UInt8)) (hp0 : 1 ≤ l.length) (hp1 : l.length ≤ 1000000) (hp2 : (∀ x ∈ l, x.length ≤ 1048576)) : bodyP (En CKnw tys G6 []) Tryd.f53 [.k] [.sl false .str l] (.str (sumAll l)) [] := by
  have hld : (l.drop 1).length = l.length - 1 := List.length_drop ..
  have hm0 : (l.getD 0 []).length ≤ 1048576 := hp2 _ (getD_mem [] l 0 (by omega))
  refine ⟨⟨by show (0 : Int) ≤ 0; omega, by show 0 < (l.length : Int); omega⟩, ⟨by omega, by omega⟩, 0, [(3, .k), (10, .k), (11, .k), (12, .k)], fun n vs H => ∃ (k : Nat), k ≤ (l.drop 1).length ∧ n = (l.drop 1).length - k ∧ vs = [.str (((l.drop 1).take k).foldl sumB (l.getD 0 [])), .sl false .str (l.drop 1), .int .i64 (((l.drop 1).length : Nat) : Int), .int .i64 (k : Int)] ∧ H = [], ⟨rfl, (l.drop 1).length, 0, by omega, by omega, rfl, rfl⟩, ?_⟩
  rintro n vs H ⟨k, hc1_0, rfl, rfl, rfl⟩
  refine ⟨fun h0 => ?_, fun h0 => ?_⟩
  · replace h0 : (k : Int) < (((l.drop 1).length : Nat) : Int) := h0
    have hs : ((l.drop 1).drop k) = (l.drop 1).drop k := rfl
    have hm1 := foldl_len (N := 1048576) ((l.drop 1).take k) (l.getD 0 []) hm0 fun x hx => drop_all hp2 1 x (List.mem_of_mem_take hx)
    have hm2 := drop_all hp2 1 _ (getD_mem [] (l.drop 1) k (by omega))
    refine ⟨⟨by show (0 : Int) ≤ (k : Int); omega, by show (k : Int) < ((l.drop 1).length : Int); omega⟩, ⟨by show (((l.drop 1).take k).foldl sumB (l.getD 0 [])).length ≤ 1000000000; first | omega | assumption | (simp only [List.length_cons, List.length_nil, List.length_append, List.length_take, List.length_drop, List.length_set, List.length_replicate]; omega), by show ((l.drop 1).getD k []).length ≤ 1000000000; first | omega | assumption | (simp only [List.length_cons, List.length_nil, List.length_append, List.length_take, List.length_drop, List.length_set, List.length_replicate]; omega)⟩, ⟨by show (-9223372036854775808 : Int) ≤ ((k : Int) + 1); omega, by show ((k : Int) + 1) ≤ (9223372036854775807 : Int); omega⟩, ?_⟩
    exact ⟨rfl, (l.drop 1).length - (k + 1), by omega, k + 1, by omega, rfl, by rw [foldl_snoc _ _ _ (by omega : k < (l.drop 1).length)]; rfl, rfl⟩
  · replace h0 : ¬ ((k : Int) < (((l.drop 1).length : Nat) : Int)) := h0
    rw [show sumAll l = ((l.drop 1).take k).foldl sumB (l.getD 0 []) by rw [List.take_of_length_le (by omega)]; rfl]
    exact ⟨rfl, rfl, rfl, rfl⟩
def CSumA : List (Nat × Con) := (53, pureC [.v (.sl .str)] sSumA) :: CKnw
theorem kSumA : Known Tryd.prog (En CSumA tys G6 []) := kKnw.add Tryd.func53 Tryd.call53 [.k] fun ds p v bs h hp => by
  unfold sSumA at h
  split at h <;> simp only [Option.some.injEq, Prod.mk.injEq, reduceCtorEq] at h
  obtain ⟨rfl, rfl, rfl⟩ := h
  exact bSumA _ hp.1 hp.2.1 hp.2.2
def sAt : List V → Option (Prop × V × List Blk)
  | [.sl false .str l, .u8 x] => some (1 ≤ l.length ∧ l.length ≤ 1000000 ∧ (∀ x ∈ l, x.length ≤ 1048576), .str (atL l x), [])
  | _ => none
set_option maxHeartbeats 1000000 in
theorem bAt (l : List (List UInt8)) (x : UInt8) (hp0 : 1 ≤ l.length) (hp1 : l.length ≤ 1000000) (hp2 : (∀ x ∈ l, x.length ≤ 1048576)) : bodyP (En CSumA tys G6 []) Tryd.f43 [.k] [.sl false .str l, .u8 x] (.str (atL l x)) [] := by
  refine ⟨⟨by show (-9223372036854775808 : Int) ≤ ((l.length : Int) - 1); omega, by show ((l.length : Int) - 1) ≤ (9223372036854775807 : Int); omega⟩, ⟨by show (0 : Int) ≤ ((l.length : Int) - 1); omega, by show ((l.length : Int) - 1) < (l.length : Int); omega⟩, ⟨by show (-9223372036854775808 : Int) ≤ ((l.length : Int) - 2); omega, by show ((l.length : Int) - 2) ≤ (9223372036854775807 : Int); omega⟩, 0, [(0, .k), (1, .k), (5, .k), (6, .k)], fun n vs H => ∃ (k : Nat), k < l.length ∧ n = k + 1 ∧ vs = [.sl false .str l, .u8 x, .str (atL (l.drop k) x), .int .i64 ((k : Int) - 1)] ∧ H = [], ⟨rfl, l.length - 1 + 1, l.length - 1, by omega, by omega, by rw [atL_last l x hp0, show ((l.length - 1 : Nat) : Int) - 1 = (l.length : Int) - 2 by omega, show l.length - 1 = ((l.length : Int) - 1).toNat by omega]; rfl, rfl⟩, ?_⟩
  rintro n vs H ⟨k, hc1_0, rfl, rfl, rfl⟩
  refine ⟨fun h0 => ?_, fun h0 => ?_⟩
  · replace h0 : 0 ≤ ((k : Int) - 1) := h0
    obtain ⟨j, hj⟩ : ∃ j, k = j + 1 := ⟨k - 1, by omega⟩
    have ek : ((k : Int) - 1).toNat = j := by omega
    have hl1 := atL_len (N := 1048576) (l.drop k) x (drop_all hp2 k)
    have hl2 := hp2 _ (getD_mem [] l j (by omega))
    refine ⟨by kernel_rfl, by show (atL (l.drop k) x).length ≤ 1000000000; first | omega | assumption | (simp only [List.length_cons, List.length_nil, List.length_append, List.length_take, List.length_drop, List.length_set, List.length_replicate]; omega), ⟨by show (0 : Int) ≤ (k : Int) - 1; omega, by show (k : Int) - 1 < (l.length : Int); omega⟩, ⟨by show 1 ≤ ([scaleB x (atL (l.drop k) x), l.getD (((k : Int) - 1).toNat) []] : List (List UInt8)).length; first | omega | assumption | (simp only [List.length_cons, List.length_nil, List.length_append, List.length_take, List.length_drop, List.length_set, List.length_replicate]; omega), by show ([scaleB x (atL (l.drop k) x), l.getD (((k : Int) - 1).toNat) []] : List (List UInt8)).length ≤ 1000000; first | omega | assumption | (simp only [List.length_cons, List.length_nil, List.length_append, List.length_take, List.length_drop, List.length_set, List.length_replicate]; omega), by rw [ek]; exact two_len (by rw [scale_len]; exact hl1) hl2⟩, ⟨by show (-9223372036854775808 : Int) ≤ (((k : Int) - 1) - 1); omega, by show (((k : Int) - 1) - 1) ≤ (9223372036854775807 : Int); omega⟩, ?_⟩
    exact ⟨rfl, j + 1, by omega, j, by omega, rfl, by (subst hj; have ej : ((j + 1 : Nat) : Int) - 1 = (j : Int) := (by omega); rw [ej, atL_drop l x j (by omega)]; rfl), rfl⟩
  · replace h0 : ¬ (0 ≤ ((k : Int) - 1)) := h0
    rw [show k = 0 by omega]
    exact ⟨rfl, rfl, rfl, rfl⟩
def CAt : List (Nat × Con) := (43, pureC [.v (.sl .str), .v .u8] sAt) :: CSumA
theorem kAt : Known Tryd.prog (En CAt tys G6 []) := kSumA.add Tryd.func43 Tryd.call43 [.k] fun ds p v bs h hp => by
  unfold sAt at h
  split at h <;> simp only [Option.some.injEq, Prod.mk.injEq, reduceCtorEq] at h
  obtain ⟨rfl, rfl, rfl⟩ := h
  exact bAt _ _ hp.1 hp.2.1 hp.2.2
def sRgt : List V → Option (Prop × V × List Blk)
  | [.sl false .str r] => some (r.length ≤ 1048576, .b (rightB r = true), [])
  | _ => none
set_option maxHeartbeats 1000000 in
theorem bRgt (r : List (List UInt8)) (hp0 : r.length ≤ 1048576) : bodyP (En CAt tys G6 []) Tryd.f46 [.k] [.sl false .str r] (.b (rightB r = true)) [] := by
  refine ⟨fun h0 => ?_, fun h0 => ?_⟩
  · replace h0 : ¬ ((r.length : Int) < 1) := h0
    refine ⟨fun h1 => ?_, fun h1 => ?_⟩
    · replace h1 : 12 ≤ (r.length : Int) := h1
      rw [right_no1 (r := r) (.inr (by omega))]
      exact ⟨rfl, rfl, rfl, rfl⟩
    · replace h1 : ¬ (12 ≤ (r.length : Int)) := h1
      have hall := right_all (r := r) (by omega) (by omega)
      refine ⟨0, [(0, .k), (13, .k), (14, .k), (15, .k)], fun n vs H => ∃ (k : Nat), k ≤ r.length ∧ (r.drop k).all (fun s => decide (s.length = n0 r) && decide (s.length ≤ 4096)) = r.all (fun s => decide (s.length = n0 r) && decide (s.length ≤ 4096)) ∧ n = r.length - k ∧ vs = [.sl false .str r, .sl false .str r, .int .i64 (r.length : Int), .int .i64 (k : Int)] ∧ H = [], ⟨rfl, r.length, 0, by omega, rfl, by omega, rfl, rfl⟩, ?_⟩
      rintro n vs H ⟨k, hc1_0, hc1_1, rfl, rfl, rfl⟩
      refine ⟨fun h2 => ?_, fun h2 => ?_⟩
      · replace h2 : (k : Int) < (r.length : Int) := h2
        have hk : k < r.length := by omega
        refine ⟨⟨by show (0 : Int) ≤ (k : Int); omega, by show (k : Int) < (r.length : Int); omega⟩, ⟨by show (0 : Int) ≤ 0; omega, by show 0 < (r.length : Int); omega⟩, fun h3 => ?_, fun h3 => ?_⟩
        · replace h3 : ¬ ((((r.getD k []).length : Nat) : Int) ≠ (((r.getD 0 []).length : Nat) : Int)) := h3
          refine ⟨fun h4 => ?_, fun h4 => ?_⟩
          · replace h4 : 4096 < (((r.getD k []).length : Nat) : Int) := h4
            have e : rightB r = false := by rw [hall]; exact all_bad (d := []) hk hc1_1 (by show (decide ((r.getD k []).length = n0 r) && decide ((r.getD k []).length ≤ 4096)) = false; rw [decide_eq_false (by omega : ¬ (r.getD k []).length ≤ 4096), Bool.and_false])
            rw [e]
            exact ⟨rfl, rfl, rfl, rfl⟩
          · replace h4 : ¬ (4096 < (((r.getD k []).length : Nat) : Int)) := h4
            have hok : (decide ((r.getD k []).length = n0 r) && decide ((r.getD k []).length ≤ 4096)) = true := by rw [decide_eq_true (by unfold n0; omega : (r.getD k []).length = n0 r), decide_eq_true (by omega : (r.getD k []).length ≤ 4096)]; rfl
            refine ⟨⟨by show (-9223372036854775808 : Int) ≤ ((k : Int) + 1); omega, by show ((k : Int) + 1) ≤ (9223372036854775807 : Int); omega⟩, ?_⟩
            exact ⟨rfl, r.length - (k + 1), by omega, k + 1, by omega, all_next (d := []) hk hc1_1 hok, rfl, rfl, rfl⟩
        · replace h3 : (((r.getD k []).length : Nat) : Int) ≠ (((r.getD 0 []).length : Nat) : Int) := h3
          have e : rightB r = false := by rw [hall]; exact all_bad (d := []) hk hc1_1 (by show (decide ((r.getD k []).length = n0 r) && decide ((r.getD k []).length ≤ 4096)) = false; rw [decide_eq_false (by unfold n0; omega : ¬ (r.getD k []).length = n0 r), Bool.false_and])
          rw [e]
          exact ⟨rfl, rfl, rfl, rfl⟩
      · replace h2 : ¬ ((k : Int) < (r.length : Int)) := h2
        have e : rightB r = true := by rw [hall]; exact all_stop (by omega) hc1_1
        rw [e]
        exact ⟨rfl, rfl, rfl, rfl⟩
  · replace h0 : (r.length : Int) < 1 := h0
    rw [right_no1 (r := r) (.inl (by omega))]
    exact ⟨rfl, rfl, rfl, rfl⟩
def CRgt : List (Nat × Con) := (46, pureC [.v (.sl .str)] sRgt) :: CAt
theorem kRgt : Known Tryd.prog (En CRgt tys G6 []) := kAt.add Tryd.func46 Tryd.call46 [.k] fun ds p v bs h hp => by
  unfold sRgt at h
  split at h <;> simp only [Option.some.injEq, Prod.mk.injEq, reduceCtorEq] at h
  obtain ⟨rfl, rfl, rfl⟩ := h
  exact bRgt _ hp
def sAlk : List V → Option (Prop × V × List Blk)
  | [.sl false .str a, .sl false .str b] => some (1 ≤ a.length ∧ 1 ≤ b.length, .b (alikeP a b), [])
  | _ => none
set_option maxHeartbeats 1000000 in
theorem bAlk (a : List (List UInt8)) (b : List (List UInt8)) (hp0 : 1 ≤ a.length) (hp1 : 1 ≤ b.length) : bodyP (En CRgt tys G6 []) Tryd.f48 [.k] [.sl false .str a, .sl false .str b] (.b (alikeP a b)) [] := by
  refine ⟨by kernel_rfl, fun h0 => ?_, fun h0 => ?_⟩
  · replace h0 : (a.length : Int) = (b.length : Int) := h0
    refine ⟨fun h1 => ?_, fun h1 => absurd (show (a.length : Int) = (b.length : Int) by first | omega | assumption | simp_all) h1⟩
    refine ⟨⟨by show (0 : Int) ≤ 0; omega, by show 0 < (a.length : Int); omega⟩, fun h2 => ?_, fun h2 => absurd (show (a.length : Int) = (b.length : Int) by first | omega | assumption | simp_all) h2⟩
    refine ⟨fun h3 => ?_, fun h3 => absurd (show (a.length : Int) = (b.length : Int) by first | omega | assumption | simp_all) h3⟩
    refine ⟨fun h4 => ?_, fun h4 => absurd (show (a.length : Int) = (b.length : Int) by first | omega | assumption | simp_all) h4⟩
    refine ⟨fun h5 => ?_, fun h5 => absurd (show (a.length : Int) = (b.length : Int) by first | omega | assumption | simp_all) h5⟩
    refine ⟨⟨by show (0 : Int) ≤ 0; omega, by show 0 < (b.length : Int); omega⟩, fun h6 => ?_, fun h6 => absurd (show (a.length : Int) = (b.length : Int) by first | omega | assumption | simp_all) h6⟩
    refine ⟨fun h7 => ?_, fun h7 => absurd (show (a.length : Int) = (b.length : Int) by first | omega | assumption | simp_all) h7⟩
    refine ⟨fun h8 => ?_, fun h8 => absurd (show (a.length : Int) = (b.length : Int) by first | omega | assumption | simp_all) h8⟩
    refine ⟨fun h9 => ?_, fun h9 => absurd (show (a.length : Int) = (b.length : Int) by first | omega | assumption | simp_all) h9⟩
    exact ⟨rfl, rfl, congrArg V.b (propext (show ((((a.getD 0 []).length : Nat) : Int) = (((b.getD 0 []).length : Nat) : Int)) ↔ alikeP a b by unfold alikeP n0; constructor <;> intro g <;> omega)), rfl⟩
  · replace h0 : ¬ ((a.length : Int) = (b.length : Int)) := h0
    refine ⟨fun h10 => absurd h10 (show ¬ ((a.length : Int) = (b.length : Int)) by first | omega | assumption | simp_all), fun h10 => ?_⟩
    refine ⟨fun h11 => absurd h11 (show ¬ ((a.length : Int) = (b.length : Int)) by first | omega | assumption | simp_all), fun h11 => ?_⟩
    refine ⟨fun h12 => absurd h12 (show ¬ ((a.length : Int) = (b.length : Int)) by first | omega | assumption | simp_all), fun h12 => ?_⟩
    refine ⟨fun h13 => absurd h13 (show ¬ ((a.length : Int) = (b.length : Int)) by first | omega | assumption | simp_all), fun h13 => ?_⟩
    refine ⟨fun h14 => absurd h14 (show ¬ ((a.length : Int) = (b.length : Int)) by first | omega | assumption | simp_all), fun h14 => ?_⟩
    refine ⟨fun h15 => absurd h15 (show ¬ ((a.length : Int) = (b.length : Int)) by first | omega | assumption | simp_all), fun h15 => ?_⟩
    refine ⟨fun h16 => absurd h16 (show ¬ ((a.length : Int) = (b.length : Int)) by first | omega | assumption | simp_all), fun h16 => ?_⟩
    refine ⟨fun h17 => absurd h17 (show ¬ ((a.length : Int) = (b.length : Int)) by first | omega | assumption | simp_all), fun h17 => ?_⟩
    refine ⟨fun h18 => absurd h18 (show ¬ ((a.length : Int) = (b.length : Int)) by first | omega | assumption | simp_all), fun h18 => ?_⟩
    exact ⟨rfl, rfl, congrArg V.b (propext (by unfold alikeP; constructor <;> intro g <;> first | exact Bool.noConfusion g | (exfalso; omega))), rfl⟩
def CAlk : List (Nat × Con) := (48, pureC [.v (.sl .str), .v (.sl .str)] sAlk) :: CRgt
theorem kAlk : Known Tryd.prog (En CAlk tys G6 []) := kRgt.add Tryd.func48 Tryd.call48 [.k] fun ds p v bs h hp => by
  unfold sAlk at h
  split at h <;> simp only [Option.some.injEq, Prod.mk.injEq, reduceCtorEq] at h
  obtain ⟨rfl, rfl, rfl⟩ := h
  exact bAlk _ _ hp.1 hp.2
def sAgr : List V → Option (Prop × V × List Blk)
  | [.sl false .str a, .int .i64 h, .sl false .str b, .int .i64 o] => some (1 ≤ a.length ∧ a.length ≤ 1000000 ∧ (∀ x ∈ a, x.length ≤ 1048576) ∧ 1 ≤ b.length ∧ b.length ≤ 1000000 ∧ (∀ x ∈ b, x.length ≤ 1048576) ∧ knw h ∧ knw o, .b (agrP a h b o), [])
  | _ => none
set_option maxHeartbeats 1000000 in
theorem bAgr (a : List (List UInt8)) (h : Int) (b : List (List UInt8)) (o : Int) (hp0 : 1 ≤ a.length) (hp1 : a.length ≤ 1000000) (hp2 : (∀ x ∈ a, x.length ≤ 1048576)) (hp3 : 1 ≤ b.length) (hp4 : b.length ≤ 1000000) (hp5 : (∀ x ∈ b, x.length ≤ 1048576)) (hp6 : knw h) (hp7 : knw o) : bodyP (En CAlk tys G6 []) Tryd.f49 [.k] [.sl false .str a, .int .i64 h, .sl false .str b, .int .i64 o] (.b (agrP a h b o)) [] := by
  obtain ⟨hk1, hk2⟩ := hp6
  obtain ⟨hk3, hk4⟩ := hp7
  refine ⟨⟨by show (-9223372036854775808 : Int) ≤ (o + 1); omega, by show (o + 1) ≤ (9223372036854775807 : Int); omega⟩, ⟨by show 1 ≤ a.length; first | omega | assumption, by show a.length ≤ 1000000; first | omega | assumption, by first | assumption | simp⟩, ⟨by show (-9223372036854775808 : Int) ≤ (h + 1); omega, by show (h + 1) ≤ (9223372036854775807 : Int); omega⟩, ⟨by show 1 ≤ b.length; first | omega | assumption, by show b.length ≤ 1000000; first | omega | assumption, by first | assumption | simp⟩, ?_⟩
  exact ⟨rfl, rfl, rfl, rfl⟩
def CAgr : List (Nat × Con) := (49, pureC [.v (.sl .str), .v (.int .i64), .v (.sl .str), .v (.int .i64)] sAgr) :: CAlk
theorem kAgr : Known Tryd.prog (En CAgr tys G6 []) := kAlk.add Tryd.func49 Tryd.call49 [.k] fun ds p v bs h hp => by
  unfold sAgr at h
  split at h <;> simp only [Option.some.injEq, Prod.mk.injEq, reduceCtorEq] at h
  obtain ⟨rfl, rfl, rfl⟩ := h
  exact bAgr _ _ _ _ hp.1 hp.2.1 hp.2.2.1 hp.2.2.2.1 hp.2.2.2.2.1 hp.2.2.2.2.2.1 hp.2.2.2.2.2.2.1 hp.2.2.2.2.2.2.2
end Go.Proofs.YtmkphnlpbngenaaDoor.S27

namespace Go.Proofs.YtmkphnlpbngenaaDoor.S27
open Go

/-! ### deals -/
def n00 (cf : List Rw) : Nat := n0 (cf.getD 0 [])
def lenB (cf : List Rw) (l : Rw) : Bool := decide (l.length = cf.length) && decide ((cf.getD 0 []).length = cf.length) && l.all fun s => decide (s.length = n00 cf)
def symB (cf : List Rw) (m : Nat) : Bool := (List.range m).all fun a => (List.range a).all fun b => decide ((cf.getD a []).getD b [] = (cf.getD b []).getD a [])
def chkD (need : Int) (cf : List Rw) : Int :=
  if need < 2 ∨ 12 < need then 3 else if (cf.length : Int) ≠ need - 1 then 1 else if cf.all (lenB cf) = false then 1 else if 4096 < n00 cf then 2 else if symB cf cf.length = false then 1 else 0
structure Deal (need : Int) (cf : List Rw) : Prop where
  n2 : 2 ≤ need
  n12 : need ≤ 12
  len : (cf.length : Int) = need - 1
  rows : ∀ l ∈ cf, l.length = cf.length
  strs : ∀ l ∈ cf, ∀ s ∈ l, s.length = n00 cf
  max : n00 cf ≤ 4096
  sym : ∀ a b, a < cf.length → b < cf.length → (cf.getD a []).getD b [] = (cf.getD b []).getD a []
theorem all_false {α : Type} {p : α → Bool} {l : List α} (h : ¬ l.all p = false) : ∀ x ∈ l, p x = true := fun x hx => by
  have : l.all p = true := by simpa using h
  exact List.all_eq_true.1 this x hx
theorem chkD0 {need : Int} {cf : List Rw} (h : chkD need cf = 0) : Deal need cf := by
  unfold chkD at h
  split at h
  · cases h
  · split at h
    · cases h
    · split at h
      · cases h
      · split at h
        · cases h
        · split at h
          · cases h
          · rename_i h1 h2 h3 h4 h5
            have h3 := all_false h3
            have hl : ∀ l ∈ cf, l.length = cf.length ∧ ∀ s ∈ l, s.length = n00 cf := fun l hl => by
              have := h3 l hl
              unfold lenB at this
              simp only [Bool.and_eq_true, decide_eq_true_eq, List.all_eq_true] at this
              exact ⟨this.1.1, this.2⟩
            have hs : ∀ a b, a < cf.length → b < a → (cf.getD a []).getD b [] = (cf.getD b []).getD a [] := fun a b ha hb => by
              have := all_false h5 a (List.mem_range.2 ha)
              simp only [List.all_eq_true, decide_eq_true_eq] at this
              exact this b (List.mem_range.2 hb)
            refine ⟨by omega, by omega, by omega, fun l h => (hl l h).1, fun l h => (hl l h).2, by omega, fun a b ha hb => ?_⟩
            rcases Nat.lt_trichotomy a b with g | g | g
            · exact (hs b a hb g).symm
            · subst g; rfl
            · exact hs a b ha g
def rowD (cf : List Rw) (h : Int) : Rw := cf.map fun l => atL l (pt h)
def rowE (need : Int) (cf : List Rw) (h : Int) : Int := if chkD need cf = 0 then (if knw h then 0 else 8) else chkD need cf
def rowL (need : Int) (cf : List Rw) (h : Int) : Rw := if rowE need cf h = 0 then rowD cf h else []
theorem map_take_snoc {α β : Type} (d : α) (f : α → β) (l : List α) (k : Nat) (h : k < l.length) : (l.take (k + 1)).map f = (l.take k).map f ++ [f (l.getD k d)] := by
  rw [takeD d l k h, List.map_append]; rfl

theorem rangeBad {p : Nat → Bool} {k m : Nat} (hk : k < m) (h : p k = false) : (List.range m).all p = false := by
  rw [Bool.eq_false_iff]
  intro e
  rw [List.all_eq_true.1 e k (List.mem_range.2 hk)] at h
  cases h
theorem rangeAll {p : Nat → Bool} {k : Nat} (h : (List.range k).all p = true) (hk : p k = true) : (List.range (k + 1)).all p = true := by
  rw [List.range_succ, List.all_append, h, List.all_cons, hk]; rfl
theorem lenB_bad1 {cf : List Rw} {l : Rw} (h : ¬ l.length = cf.length) : lenB cf l = false := by unfold lenB; rw [decide_eq_false h, Bool.false_and, Bool.false_and]
theorem lenB_bad2 {cf : List Rw} {l : Rw} (h : ¬ (cf.getD 0 []).length = cf.length) : lenB cf l = false := by unfold lenB; rw [decide_eq_false h, Bool.and_false, Bool.false_and]
theorem lenB_bad3 {cf : List Rw} {l : Rw} (h : (l.all fun s => decide (s.length = n00 cf)) = false) : lenB cf l = false := by unfold lenB; rw [h, Bool.and_false]
theorem lenB_yes {cf : List Rw} {l : Rw} (h1 : l.length = cf.length) (h2 : (cf.getD 0 []).length = cf.length) (h : (l.all fun s => decide (s.length = n00 cf)) = true) : lenB cf l = true := by unfold lenB; rw [h, decide_eq_true h1, decide_eq_true h2]; rfl
theorem lenB_len {cf : List Rw} (h : cf.all (lenB cf) = true) : ∀ l ∈ cf, l.length = cf.length := fun l hl => by
  have := List.all_eq_true.1 h l hl
  unfold lenB at this
  simp only [Bool.and_eq_true, decide_eq_true_eq] at this
  exact this.1.1

/-! ### a share renewed -/
def updB (h : Int) (b : List UInt8) (rows : List Rw) : List UInt8 := rows.foldl (fun s r => sumB s (scaleB (pt h) (r.getD 0 []))) b
def updOk (b : List UInt8) (r : Rw) : Bool := rightB r && decide (n0 r = b.length)
def updE (h : Int) (b : List UInt8) (rows : List Rw) : Int := if knw h then (if b.length ≤ 4096 then (if rows.all (updOk b) = true then 0 else 1) else 2) else 8
theorem upd_len {h : Int} {b : List UInt8} : ∀ (rows : List Rw) (s : List UInt8), s.length = b.length → (∀ r ∈ rows, updOk b r = true) → (updB h s rows).length = b.length
  | [], s, hs, _ => hs
  | r :: rows, s, hs, hr => by
    have h1 := hr r (by simp)
    unfold updOk at h1
    simp only [Bool.and_eq_true, decide_eq_true_eq] at h1
    have h2 : (r.getD 0 []).length = b.length := h1.2
    exact upd_len rows _ (by rw [sum_len, scale_len]; omega) fun x hx => hr x (by simp [hx])

theorem upd_snoc {h : Int} {b : List UInt8} {rows : List Rw} {k : Nat} (hk : k < rows.length) : updB h b (rows.take (k + 1)) = sumB (updB h b (rows.take k)) (scaleB (pt h) ((rows.getD k []).getD 0 [])) := by
  unfold updB
  rw [takeD [] rows k hk, List.foldl_append]; rfl
def updH (h : Int) (b : List UInt8) (rows : List Rw) : Int := if updE h b rows = 0 then h else 0
def updS (h : Int) (b : List UInt8) (rows : List Rw) : List UInt8 := if updE h b rows = 0 then updB h b rows else []
theorem updOk_bad1 {b : List UInt8} {r : Rw} (h : ¬ rightB r = true) : updOk b r = false := by unfold updOk; rw [Bool.eq_false_iff.2 h]; rfl
theorem updOk_bad2 {b : List UInt8} {r : Rw} (h : ¬ n0 r = b.length) : updOk b r = false := by unfold updOk; rw [decide_eq_false h, Bool.and_false]
theorem updOk_yes {b : List UInt8} {r : Rw} (h1 : rightB r = true) (h : n0 r = b.length) : updOk b r = true := by unfold updOk; rw [h1, decide_eq_true h]; rfl
theorem updOk_no {b : List UInt8} {r : Rw} (h : updOk b r = true) : rightB r = true ∧ n0 r = b.length := by
  unfold updOk at h
  simp only [Bool.and_eq_true, decide_eq_true_eq] at h
  exact h

/-! ### pairs of houses -/
def prOk (rows : List Rw) (a b : Nat) : Bool := decide (0 < (rows.getD a []).length ∧ 0 < (rows.getD b []).length)
def prJ (rows : List Rw) (a : Nat) : Nat → Nat → List (Nat × Nat)
  | 0, _ => []
  | m + 1, b => if prOk rows a b = true then (a, b) :: prJ rows a m (b + 1) else prJ rows a m (b + 1)
def prA (rows : List Rw) : Nat → Nat → List (Nat × Nat)
  | 0, _ => []
  | m + 1, a => prJ rows a (rows.length - (a + 1)) (a + 1) ++ prA rows m (a + 1)
def pairsL (rows : List Rw) : List (Nat × Nat) := prA rows rows.length 0
theorem prJ_mem {rows : List Rw} {a : Nat} : ∀ (m b : Nat) (p : Nat × Nat), p ∈ prJ rows a m b ↔ (p.1 = a ∧ b ≤ p.2 ∧ p.2 < b + m ∧ prOk rows p.1 p.2 = true)
  | 0, b, p => by simp [prJ]; omega
  | m + 1, b, p => by
    unfold prJ
    split
    · rename_i h
      rw [List.mem_cons, prJ_mem m (b + 1) p]
      constructor
      · rintro (rfl | ⟨h1, h2, h3, h4⟩)
        · exact ⟨rfl, Nat.le_refl _, by simp, h⟩
        · exact ⟨h1, by omega, by omega, h4⟩
      · rintro ⟨h1, h2, h3, h4⟩
        by_cases e : p.2 = b
        · exact .inl (by rw [← h1, ← e])
        · exact .inr ⟨h1, by omega, by omega, h4⟩
    · rename_i h
      rw [prJ_mem m (b + 1) p]
      constructor
      · rintro ⟨h1, h2, h3, h4⟩
        exact ⟨h1, by omega, by omega, h4⟩
      · rintro ⟨h1, h2, h3, h4⟩
        refine ⟨h1, ?_, by omega, h4⟩
        rcases Nat.lt_or_ge b p.2 with g | g
        · exact g
        · have : p.2 = b := by omega
          rw [h1, this] at h4
          exact absurd h4 h
theorem prA_mem {rows : List Rw} : ∀ (m a : Nat) (p : Nat × Nat), a + m = rows.length → (p ∈ prA rows m a ↔ (a ≤ p.1 ∧ p.1 < p.2 ∧ p.2 < rows.length ∧ prOk rows p.1 p.2 = true))
  | 0, a, p, h => by simp [prA]; omega
  | m + 1, a, p, h => by
    unfold prA
    rw [List.mem_append, prJ_mem, prA_mem m (a + 1) p (by omega)]
    constructor
    · rintro (⟨h1, h2, h3, h4⟩ | ⟨h1, h2, h3, h4⟩)
      · exact ⟨by omega, by omega, by omega, h4⟩
      · exact ⟨by omega, by omega, by omega, h4⟩
    · rintro ⟨h1, h2, h3, h4⟩
      by_cases e : p.1 = a
      · exact .inl ⟨e, by omega, by omega, h4⟩
      · exact .inr ⟨by omega, by omega, by omega, h4⟩
theorem pairs_mem {rows : List Rw} {p : Nat × Nat} : p ∈ pairsL rows ↔ p.1 < p.2 ∧ p.2 < rows.length ∧ 0 < (rows.getD p.1 []).length ∧ 0 < (rows.getD p.2 []).length := by
  unfold pairsL
  rw [prA_mem _ _ _ (by omega)]
  unfold prOk
  rw [decide_eq_true_eq]
  constructor
  · rintro ⟨h1, h2, h3, h4⟩; exact ⟨h2, h3, h4⟩
  · rintro ⟨h2, h3, h4⟩; exact ⟨Nat.zero_le _, h2, h3, h4⟩
def prI (p : Nat × Nat) : List Int := [(p.1 : Int), (p.2 : Int)]
def alkB (rows : List Rw) (p : Nat × Nat) : Bool := decide (alikeP (rows.getD p.1 []) (rows.getD p.2 []))
def oddB (rows : List Rw) (p : Nat × Nat) : Bool := !decide (agrP (rows.getD p.1 []) (p.1 : Int) (rows.getD p.2 []) (p.2 : Int))
def rgtB (r : Rw) : Bool := decide (r.length = 0) || rightB r
def cmpE (rows : List Rw) : Int := if 12 < rows.length then 2 else if rows.all rgtB = false then 1 else if (pairsL rows).all (alkB rows) = false then 1 else 0
def cmpO (rows : List Rw) (l : List (Nat × Nat)) : List (List Int) := (l.filter (oddB rows)).map prI
def cmpL (rows : List Rw) : List (List Int) := if cmpE rows = 0 then cmpO rows (pairsL rows) else []
theorem cmpO_snoc (rows : List Rw) (l : List (Nat × Nat)) (k : Nat) (h : k < l.length) : cmpO rows (l.take (k + 1)) = cmpO rows (l.take k) ++ (if oddB rows (l.getD k (0, 0)) = true then [prI (l.getD k (0, 0))] else []) := by
  unfold cmpO
  rw [takeD (0, 0) l k h, List.filter_append, List.map_append]
  congr 1
  by_cases e : oddB rows (l.getD k (0, 0)) = true
  · rw [if_pos e, List.filter_cons_of_pos e]; rfl
  · rw [if_neg e, List.filter_cons_of_neg e]; rfl
theorem cmpO_len (rows : List Rw) (l : List (Nat × Nat)) : (cmpO rows l).length ≤ l.length := by
  unfold cmpO
  rw [List.length_map]
  exact List.length_filter_le _ _
theorem prJ_len {rows : List Rw} {a : Nat} : ∀ (m b : Nat), (prJ rows a m b).length ≤ m
  | 0, b => by simp [prJ]
  | m + 1, b => by
    unfold prJ
    have := prJ_len (rows := rows) (a := a) m (b + 1)
    split
    · rw [List.length_cons]; omega
    · omega
theorem prA_len {rows : List Rw} : ∀ (m a : Nat), (prA rows m a).length ≤ m * rows.length
  | 0, a => by simp [prA]
  | m + 1, a => by
    unfold prA
    rw [List.length_append]
    have h1 := prJ_len (rows := rows) (a := a) (rows.length - (a + 1)) (a + 1)
    have h2 := prA_len (rows := rows) m (a + 1)
    rw [Nat.succ_mul]
    omega
theorem pairs_len {rows : List Rw} (h : rows.length ≤ 12) : (pairsL rows).length ≤ 144 := by
  have h1 := prA_len (rows := rows) rows.length 0
  have h2 : rows.length * rows.length ≤ 12 * 12 := Nat.mul_le_mul h h
  unfold pairsL
  omega

theorem oddB_yes {rows : List Rw} {p : Nat × Nat} (h : ¬ agrP (rows.getD p.1 []) (p.1 : Int) (rows.getD p.2 []) (p.2 : Int)) : oddB rows p = true := by unfold oddB; rw [decide_eq_false h]; rfl
theorem oddB_no {rows : List Rw} {p : Nat × Nat} (h : agrP (rows.getD p.1 []) (p.1 : Int) (rows.getD p.2 []) (p.2 : Int)) : ¬ oddB rows p = true := by unfold oddB; rw [decide_eq_true h]; decide
theorem alkB_yes {rows : List Rw} {p : Nat × Nat} (h : alikeP (rows.getD p.1 []) (rows.getD p.2 [])) : alkB rows p = true := decide_eq_true h
theorem alkB_no {rows : List Rw} {p : Nat × Nat} (h : ¬ alikeP (rows.getD p.1 []) (rows.getD p.2 [])) : alkB rows p = false := decide_eq_false h
theorem rgtB_no {r : Rw} (h1 : 0 < r.length) (h : ¬ rightB r = true) : rgtB r = false := by unfold rgtB; rw [decide_eq_false (by omega), Bool.eq_false_iff.2 h]; rfl
theorem rgtB_yes {r : Rw} (h : rightB r = true) : rgtB r = true := by unfold rgtB; rw [h, Bool.or_true]
theorem rgtB_nil {r : Rw} (h : r.length = 0) : rgtB r = true := by unfold rgtB; rw [decide_eq_true h]; rfl
theorem rgtB_ok {r : Rw} (h1 : 0 < r.length) (h : rgtB r = true) : rightB r = true := by unfold rgtB at h; rwa [decide_eq_false (by omega), Bool.false_or] at h

/-! ### a row from others -/
def fullK (rows : List Rw) (k : Nat) : List Nat := (List.range k).filter fun i => decide (0 < (rows.getD i []).length)
def lastK (rows : List Rw) (k : Nat) : Nat := (rows.take k).foldl (fun m r => if 0 < r.length then r.length else m) 0
def ptsK (rows : List Rw) (k : Nat) : List UInt8 := (fullK rows k).map fun i : Nat => pt (i : Int)
def vlsK (rows : List Rw) (h : Int) (k : Nat) : Rw := (fullK rows k).map fun i => atL (rows.getD i []) (pt h)
theorem full_yes {rows : List Rw} {k : Nat} (h : 0 < (rows.getD k []).length) : fullK rows (k + 1) = fullK rows k ++ [k] := by
  unfold fullK
  rw [List.range_succ, List.filter_append]
  congr 1
  exact List.filter_cons_of_pos (decide_eq_true h)
theorem full_no {rows : List Rw} {k : Nat} (h : ¬ 0 < (rows.getD k []).length) : fullK rows (k + 1) = fullK rows k := by
  unfold fullK
  rw [List.range_succ, List.filter_append, show List.filter (fun i => decide (0 < (rows.getD i []).length)) [k] = [] from List.filter_cons_of_neg (by rw [decide_eq_true_eq]; exact h), List.append_nil]
theorem full_len (rows : List Rw) (k : Nat) : (fullK rows k).length ≤ k := by
  unfold fullK
  exact Nat.le_trans (List.length_filter_le _ _) (by rw [List.length_range]; omega)
theorem pts_len (rows : List Rw) (k : Nat) : (ptsK rows k).length = (fullK rows k).length := List.length_map ..
theorem vls_len (rows : List Rw) (h : Int) (k : Nat) : (vlsK rows h k).length = (fullK rows k).length := List.length_map ..
theorem pts_yes {rows : List Rw} {k : Nat} (h : 0 < (rows.getD k []).length) : ptsK rows (k + 1) = ptsK rows k ++ [pt (k : Int)] := by unfold ptsK; rw [full_yes h, List.map_append]; rfl
theorem pts_no {rows : List Rw} {k : Nat} (h : ¬ 0 < (rows.getD k []).length) : ptsK rows (k + 1) = ptsK rows k := by unfold ptsK; rw [full_no h]
theorem vls_yes {rows : List Rw} {h : Int} {k : Nat} (hk : 0 < (rows.getD k []).length) : vlsK rows h (k + 1) = vlsK rows h k ++ [atL (rows.getD k []) (pt h)] := by unfold vlsK; rw [full_yes hk, List.map_append]; rfl
theorem vls_no {rows : List Rw} {h : Int} {k : Nat} (hk : ¬ 0 < (rows.getD k []).length) : vlsK rows h (k + 1) = vlsK rows h k := by unfold vlsK; rw [full_no hk]
theorem last_yes {rows : List Rw} {k : Nat} (hk : k < rows.length) (h : 0 < (rows.getD k []).length) : lastK rows (k + 1) = (rows.getD k []).length := by
  unfold lastK
  rw [takeD [] rows k hk, List.foldl_append]
  exact if_pos h
theorem last_no {rows : List Rw} {k : Nat} (hk : k < rows.length) (h : ¬ 0 < (rows.getD k []).length) : lastK rows (k + 1) = lastK rows k := by
  unfold lastK
  rw [takeD [] rows k hk, List.foldl_append]
  exact if_neg h
theorem last_le {rows : List Rw} {N : Nat} (h : ∀ r ∈ rows, r.length ≤ N) : ∀ k, lastK rows k ≤ N := fun k => by
  unfold lastK
  have key : ∀ (l : List Rw) (m : Nat), m ≤ N → (∀ r ∈ l, r.length ≤ N) → l.foldl (fun m r => if 0 < r.length then r.length else m) m ≤ N := by
    intro l
    induction l with
    | nil => intro m hm _; exact hm
    | cons r l ih =>
      intro m hm hl
      refine ih _ ?_ fun x hx => hl x (by simp [hx])
      show (if 0 < r.length then r.length else m) ≤ N
      split
      · exact hl r (by simp)
      · exact hm
  exact key _ 0 (Nat.zero_le _) fun r hr => h r (List.mem_of_mem_take hr)
def unitL (m k : Nat) : List UInt8 := (List.replicate m 0).set k 1
def coefP (ps : List UInt8) (m k a : Nat) : UInt8 := (ipL ps (unitL m k)).1.getD a 0
def outN (ps : List UInt8) (vs : Rw) (m k : Nat) (old : Rw) (a : Nat) : List UInt8 := if k = 0 then scaleB (coefP ps m k a) (vs.getD k []) else sumB (old.getD a []) (scaleB (coefP ps m k a) (vs.getD k []))
def outP (ps : List UInt8) (vs : Rw) (m k : Nat) (old : Rw) (a : Nat) : Rw := (List.range m).map fun i => if i < a then outN ps vs m k old i else old.getD i []
def outS (ps : List UInt8) (vs : Rw) (m : Nat) : Nat → Rw
  | 0 => List.replicate m []
  | k + 1 => (List.range m).map (outN ps vs m k (outS ps vs m k))
theorem outP_len (ps : List UInt8) (vs : Rw) (m k : Nat) (old : Rw) (a : Nat) : (outP ps vs m k old a).length = m := by simp [outP]
theorem outS_len (ps : List UInt8) (vs : Rw) (m : Nat) : ∀ k, (outS ps vs m k).length = m
  | 0 => by simp [outS]
  | k + 1 => by simp [outS]
theorem outP_zero {ps : List UInt8} {vs : Rw} {m k : Nat} {old : Rw} (h : old.length = m) : outP ps vs m k old 0 = old := by
  apply List.ext_getElem
  · rw [outP_len, h]
  · intro i h1 h2
    simp [outP, List.getD_eq_getElem?_getD, h2]
theorem outP_all {ps : List UInt8} {vs : Rw} {m k : Nat} : outP ps vs m k (outS ps vs m k) m = outS ps vs m (k + 1) := by
  unfold outP
  rw [outS]
  apply List.map_congr_left
  intro i hi
  rw [if_pos (List.mem_range.1 hi)]
theorem outP_get {ps : List UInt8} {vs : Rw} {m k a : Nat} {old : Rw} (h : a < m) : (outP ps vs m k old a).getD a [] = old.getD a [] := by
  simp [outP, List.getD_eq_getElem?_getD, h]
theorem outP_set {ps : List UInt8} {vs : Rw} {m k a : Nat} {old : Rw} (h : a < m) : (outP ps vs m k old a).set a (outN ps vs m k old a) = outP ps vs m k old (a + 1) := by
  apply List.ext_getElem
  · rw [List.length_set, outP_len, outP_len]
  · intro i h1 h2
    rw [List.getElem_set]
    simp only [outP, List.getElem_map, List.getElem_range]
    by_cases e : a = i
    · subst e; simp
    · rw [if_neg e]
      by_cases g : i < a
      · rw [if_pos g, if_pos (by omega)]
      · rw [if_neg g, if_neg (by omega)]
theorem outN_le {ps : List UInt8} {vs : Rw} {m k a N : Nat} {old : Rw} (h1 : ∀ s ∈ old, s.length ≤ N) (h2 : ∀ s ∈ vs, s.length ≤ N) : (outN ps vs m k old a).length ≤ N := by
  have hg : ∀ (l : Rw) (i : Nat), (∀ s ∈ l, s.length ≤ N) → (l.getD i []).length ≤ N := fun l i hl => by
    by_cases hi : i < l.length
    · exact hl _ (getD_mem [] l i hi)
    · simp [List.getD_eq_getElem?_getD, List.getElem?_eq_none (by omega : l.length ≤ i)]
  unfold outN
  have e1 := hg old a h1
  have e2 := hg vs k h2
  split
  · rw [scale_len]; exact e2
  · rw [sum_len, scale_len]; omega
theorem outS_le {ps : List UInt8} {vs : Rw} {m N : Nat} (h2 : ∀ s ∈ vs, s.length ≤ N) : ∀ k, ∀ s ∈ outS ps vs m k, s.length ≤ N
  | 0 => fun s hs => by rw [List.eq_of_mem_replicate hs]; exact Nat.zero_le _
  | k + 1 => fun s hs => by
    obtain ⟨i, _, rfl⟩ := List.mem_map.1 hs
    exact outN_le (outS_le h2 k) h2
theorem out_first {ps : List UInt8} {vs : Rw} {m k a : Nat} {old : Rw} (hk : k = 0) (h : a < m) : (outP ps vs m k old a).set a (scaleB (coefP ps m k a) (vs.getD k [])) = outP ps vs m k old (a + 1) := by
  rw [← outP_set h, outN, if_pos hk]
theorem out_next {ps : List UInt8} {vs : Rw} {m k a : Nat} {old : Rw} (hk : ¬ k = 0) (h : a < m) : (outP ps vs m k old a).set a (sumB ((outP ps vs m k old a).getD a []) (scaleB (coefP ps m k a) (vs.getD k []))) = outP ps vs m k old (a + 1) := by
  rw [← outP_set h, outN, if_neg hk, outP_get h]
theorem coef_out {ps : List UInt8} {m k a : Nat} (h : ¬ a < (ipL ps (unitL m k)).1.length) : coefP ps m k a = 0 := by
  unfold coefP
  simp [List.getD_eq_getElem?_getD, List.getElem?_eq_none (by omega : (ipL ps (unitL m k)).1.length ≤ a)]
theorem last_11 {rows : List Rw} (h : ∀ r ∈ rows, 0 < r.length → rightB r = true) (k : Nat) : lastK rows k ≤ 11 := last_le (fun r hr => by
  by_cases g : 0 < r.length
  · have := (right_ok (h r hr g)).2.1; omega
  · omega) k
theorem full_mem {rows : List Rw} {k i : Nat} : i ∈ fullK rows k ↔ i < k ∧ 0 < (rows.getD i []).length := by
  unfold fullK
  rw [List.mem_filter, List.mem_range, decide_eq_true_eq]
theorem vls_le {rows : List Rw} {h : Int} (hr : ∀ r ∈ rows, 0 < r.length → rightB r = true) {k : Nat} (hk : k ≤ rows.length) : ∀ s ∈ vlsK rows h k, s.length ≤ 4096 := fun s hs => by
  obtain ⟨i, hi, rfl⟩ := List.mem_map.1 hs
  obtain ⟨h1, h2⟩ := full_mem.1 hi
  exact atL_len _ _ (right_len (hr _ (getD_mem [] rows i (by omega)) h2))
def rflE (rows : List Rw) (h : Int) : Int :=
  if cmpE rows = 0 then (if knw h then (if lastK rows rows.length = 0 ∨ (fullK rows rows.length).length < lastK rows rows.length then 17 else if cmpL rows = [] then 0 else 4) else 8) else cmpE rows
def rflO (rows : List Rw) (h : Int) (k : Nat) : Rw := outS ((ptsK rows k).take (lastK rows k)) (vlsK rows h k) (lastK rows k) (lastK rows k)
def rflL (rows : List Rw) (h : Int) : Rw := if rflE rows h = 0 then rflO rows h rows.length else []
theorem cmp0 {rows : List Rw} (h : cmpE rows = 0) : rows.length ≤ 12 ∧ (∀ r ∈ rows, 0 < r.length → rightB r = true) ∧ ∀ p ∈ pairsL rows, alikeP (rows.getD p.1 []) (rows.getD p.2 []) := by
  unfold cmpE at h
  split at h
  · cases h
  · split at h
    · cases h
    · split at h
      · cases h
      · rename_i h1 h2 h3
        exact ⟨by omega, fun r hr h0 => rgtB_ok h0 (all_false h2 r hr), fun p hp => of_decide_eq_true (all_false h3 p hp)⟩
end Go.Proofs.YtmkphnlpbngenaaDoor.S27

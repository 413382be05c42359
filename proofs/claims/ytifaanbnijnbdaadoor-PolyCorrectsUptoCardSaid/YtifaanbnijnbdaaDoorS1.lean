/- Texts of this claim: S6.Pm, S6.Pi, S6.PolyL, S6.RefA, S6.RefB, S6.RefC, S6.RefD, S6.Pj. -/
import Derived.Test.YtifaanbnijnbdaaDoorS0
set_option linter.unusedVariables false
set_option linter.unusedSimpArgs false
namespace Go.Proofs.YtifaanbnijnbdaaDoor.S6
open Go Go.Proofs.YtifaanbnijnbdaaDoor.Vc Go.Proofs
set_option maxRecDepth 100000

/-! ### The product -/
theorem co_set (q : List UInt8) (k : Nat) (c : UInt8) (j : Nat) (hk : k < q.length) : co (q.set k c) j = if j = k then c else co q j := by
  unfold co
  simp only [List.getD_eq_getElem?_getD, List.getElem?_set]
  by_cases h : j = k
  · rw [if_pos h, if_pos h.symm, if_pos hk]; rfl
  · rw [if_neg h, if_neg (Ne.symm h)]
theorem co_addAt (acc : List UInt8) (i : Nat) (c : UInt8) (j : Nat) (hi : i < acc.length) : co (addAt acc i c) j = co acc j ^^^ (if j = i then c else 0) := by
  unfold addAt
  rw [co_set _ _ _ _ hi]
  by_cases h : j = i
  · rw [if_pos h, if_pos h, h]; rfl
  · rw [if_neg h, if_neg h]; simp
theorem co_rowA (x : UInt8) : ∀ (b acc : List UInt8) (i j : Nat), i + b.length ≤ acc.length → co (rowA x acc i b) j = co acc j ^^^ sh i (fun k => mulL x (co b k)) j
  | [], acc, i, j, h => by
    rw [rowA]
    have : sh i (fun k => mulL x (co [] k)) j = 0 := by
      unfold sh
      split
      · rfl
      · dsimp only; rw [co_nil, mul_zero']
    rw [this]; simp
  | y :: b, acc, i, j, h => by
    simp only [List.length_cons] at h
    rw [rowA, co_rowA x b _ (i + 1) j (by rw [addAt_len]; omega), co_addAt _ _ _ _ (by omega)]
    have : sh i (fun k => mulL x (co (y :: b) k)) j = (if j = i then mulL x y else 0) ^^^ sh (i + 1) (fun k => mulL x (co b k)) j := by
      unfold sh
      by_cases h1 : j < i
      · rw [if_pos h1, if_neg (by omega), if_pos (by omega)]; rfl
      · by_cases h2 : j = i
        · rw [if_neg h1, if_pos h2, if_pos (by omega), h2, Nat.sub_self]; simp [co_zero]
        · rw [if_neg h1, if_neg h2, if_neg (by omega)]
          rw [show j - i = (j - (i + 1)) + 1 by omega]
          dsimp only
          rw [co_succ]
          simp
    rw [this]
    ac_rfl
theorem co_prodA (b : List UInt8) : ∀ (a acc : List UInt8) (i j : Nat), i + a.length + b.length ≤ acc.length → co (prodA b acc i a) j = co acc j ^^^ sh i (cv (co a) (co b)) j
  | [], acc, i, j, h => by
    rw [prodA]
    have : sh i (cv (co []) (co b)) j = 0 := by
      unfold sh
      split
      · rfl
      · exact cv_zerol _ _ _ fun i => rfl
    rw [this]; simp
  | x :: a, acc, i, j, h => by
    simp only [List.length_cons] at h
    rw [prodA, co_prodA b a _ (i + 1) j (by rw [rowA_len]; omega), co_rowA x b acc i j (by omega)]
    have : sh i (cv (co (x :: a)) (co b)) j = sh i (fun k => mulL x (co b k)) j ^^^ sh (i + 1) (cv (co a) (co b)) j := by
      unfold sh
      by_cases h1 : j < i
      · rw [if_pos h1, if_pos h1, if_pos (by omega)]; rfl
      · rw [if_neg h1, if_neg h1]
        by_cases h2 : j = i
        · rw [if_pos (by omega), h2, Nat.sub_self]
          show mulL x (co b 0) = mulL x (co b 0) ^^^ 0
          simp
        · rw [if_neg (by omega), show j - i = (j - (i + 1)) + 1 by omega, cv_succ]
          rfl
    rw [this]
    ac_rfl
theorem co_zeros (n i : Nat) : co (List.replicate n 0) i = 0 := by
  unfold co
  rw [List.getD_eq_getElem?_getD, List.getElem?_replicate]
  split <;> rfl
theorem co_prod (a b : List UInt8) (j : Nat) : co (prodL a b) j = cv (co a) (co b) j := by
  unfold prodL
  rw [co_trim, co_prodA b a _ 0 j (by rw [List.length_replicate]; omega), co_zeros]
  simp [sh]
theorem prod_trim (a b : List UInt8) : trimL (prodL a b) = prodL a b := by unfold prodL; exact trim_idem _
theorem sum_trim (a b : List UInt8) : trimL (sumL [a, b]) = sumL [a, b] := by rw [sumL_two]; exact trim_idem _
theorem cv_congr {f f' g g' : Nat → UInt8} (hf : ∀ i, f i = f' i) (hg : ∀ i, g i = g' i) (n : Nat) : cv f g n = cv f' g' n := by
  rw [show f = f' from funext hf, show g = g' from funext hg]
theorem prod_comm (a b : List UInt8) : prodL a b = prodL b a := by
  exact (prod_trim _ _).symm.trans ((trim_ext _ _ fun i => by rw [co_prod, co_prod, cv_comm]).trans (prod_trim _ _))
theorem prod_assoc (a b c : List UInt8) : prodL (prodL a b) c = prodL a (prodL b c) := by
  refine (prod_trim _ _).symm.trans ((trim_ext _ _ fun i => ?_).trans (prod_trim _ _))
  rw [co_prod, co_prod, cv_congr (fun i => co_prod a b i) (fun _ => rfl), cv_congr (f := co a) (fun _ => rfl) (fun i => co_prod b c i), cv_assoc]
theorem prod_sum (a b c : List UInt8) : prodL a (sumL [b, c]) = sumL [prodL a b, prodL a c] := by
  refine (prod_trim _ _).symm.trans ((trim_ext _ _ fun i => ?_).trans (sum_trim _ _))
  rw [co_prod, co_sum, co_prod, co_prod, cv_congr (f := co a) (fun _ => rfl) (fun i => co_sum b c i), cv_addr]

/-! ### The value -/
theorem horner_trim (x : UInt8) : ∀ p : List UInt8, horner x (trimL p) = horner x p
  | [] => rfl
  | c :: p => by
    have ih := horner_trim x p
    unfold trimL
    cases hp : trimL p with
    | nil =>
      rw [hp] at ih
      show horner x (if c = 0 then [] else [c]) = mulL (horner x p) x ^^^ c
      rw [← ih]
      by_cases hc : c = 0
      · rw [if_pos hc, hc]
        show (0 : UInt8) = mulL 0 x ^^^ 0
        rw [zero_mul']; rfl
      · rw [if_neg hc]; rfl
    | cons d q =>
      rw [hp] at ih
      show mulL (horner x (d :: q)) x ^^^ c = mulL (horner x p) x ^^^ c
      rw [ih]
theorem horner_ext (x : UInt8) {p q : List UInt8} (h : ∀ i, co p i = co q i) : horner x p = horner x q := by
  rw [← horner_trim, trim_ext p q h, horner_trim]
theorem horner_xor (x : UInt8) : ∀ a b : List UInt8, horner x (xorL a b) = horner x a ^^^ horner x b
  | [], b => by simp [xorL, horner]
  | c :: a, [] => by simp [xorL, horner]
  | c :: a, d :: b => by
    show mulL (horner x (xorL a b)) x ^^^ (c ^^^ d) = (mulL (horner x a) x ^^^ c) ^^^ (mulL (horner x b) x ^^^ d)
    rw [horner_xor x a b, mulL_add]
    ac_rfl
theorem horner_sum (x : UInt8) (a b : List UInt8) : horner x (sumL [a, b]) = horner x a ^^^ horner x b := by
  rw [sumL_two, horner_trim, horner_xor]
def pm : List UInt8 → List UInt8 → List UInt8
  | [], _ => []
  | x :: a, b => xorL (b.map (mulL x)) (0 :: pm a b)
theorem co_map (c : UInt8) : ∀ (b : List UInt8) (i : Nat), co (b.map (mulL c)) i = mulL c (co b i)
  | [], i => by show (0 : UInt8) = mulL c 0; rw [mul_zero']
  | d :: b, 0 => rfl
  | d :: b, i + 1 => co_map c b i
theorem co_pm (b : List UInt8) : ∀ (a : List UInt8) (i : Nat), co (pm a b) i = cv (co a) (co b) i
  | [], i => (cv_zerol _ _ _ fun _ => rfl).symm
  | x :: a, i => by
    rw [pm, co_xor, co_map]
    cases i with
    | zero =>
      show mulL x (co b 0) ^^^ 0 = mulL x (co b 0)
      simp
    | succ i =>
      rw [co_succ, co_pm b a i]
      rfl
theorem horner_map (x c : UInt8) : ∀ b : List UInt8, horner x (b.map (mulL c)) = mulL c (horner x b)
  | [] => by show (0 : UInt8) = mulL c 0; rw [mul_zero']
  | d :: b => by
    show mulL (horner x (b.map (mulL c))) x ^^^ mulL c d = mulL c (mulL (horner x b) x ^^^ d)
    rw [horner_map x c b, mulL_addr, mul_assoc']
theorem horner_pm (x : UInt8) (b : List UInt8) : ∀ a : List UInt8, horner x (pm a b) = mulL (horner x a) (horner x b)
  | [] => by show (0 : UInt8) = mulL 0 _; rw [zero_mul']
  | c :: a => by
    rw [pm, horner_xor, horner_map]
    show _ ^^^ (mulL (horner x (pm a b)) x ^^^ 0) = mulL (mulL (horner x a) x ^^^ c) (horner x b)
    rw [horner_pm x b a, mulL_add]
    have : mulL (mulL (horner x a) (horner x b)) x = mulL (mulL (horner x a) x) (horner x b) := by ac_rfl
    rw [this]
    simp only [UInt8.xor_zero]
    ac_rfl
theorem horner_prod (x : UInt8) (a b : List UInt8) : horner x (prodL a b) = mulL (horner x a) (horner x b) := by
  rw [← horner_pm]
  exact horner_ext x fun i => by rw [co_prod, co_pm]

/-! ### The degree of a product -/
theorem sz_prod (a b : List UInt8) (ha : trimL a ≠ []) (hb : trimL b ≠ []) : sz (prodL a b) + 1 = sz a + sz b := by
  have h1 : 0 < sz a := List.length_pos_iff.2 ha
  have h2 : 0 < sz b := List.length_pos_iff.2 hb
  have ht := cv_top (sz b - 1) (co b) (fun i hi => sz_co b i (by omega)) (sz a - 1) (co a) fun i hi => sz_co a i (by omega)
  have hne : co (prodL a b) (sz a - 1 + (sz b - 1)) ≠ 0 := by
    rw [co_prod, ht.1]
    intro h
    rcases mul_eq_zero' h with h | h
    · exact trim_last a ha h
    · exact trim_last b hb h
  have := sz_eq (fun i hi => by rw [co_prod]; exact ht.2 i hi) hne
  omega
theorem prod_zero_l (a b : List UInt8) (ha : trimL a = []) : prodL a b = [] := by
  rw [← prod_trim]
  refine trim_zero _ fun i => ?_
  rw [co_prod]
  exact cv_zerol _ _ _ fun i => by rw [← co_trim, ha]; rfl
theorem prod_zero_r (a b : List UInt8) (hb : trimL b = []) : prodL a b = [] := by rw [prod_comm]; exact prod_zero_l b a hb
theorem prod_eq_nil {a b : List UInt8} (h : prodL a b = []) : trimL a = [] ∨ trimL b = [] := by
  by_cases ha : trimL a = []
  · exact .inl ha
  · by_cases hb : trimL b = []
    · exact .inr hb
    · have := sz_prod a b ha hb
      have h1 : 0 < sz a := List.length_pos_iff.2 ha
      have h2 : 0 < sz b := List.length_pos_iff.2 hb
      have h3 : sz (prodL a b) = 0 := by rw [h]; rfl
      omega
theorem sz_prod_le (a b : List UInt8) : sz (prodL a b) ≤ sz a + sz b - 1 := by
  by_cases ha : trimL a = []
  · rw [prod_zero_l a b ha]; exact Nat.zero_le _
  · by_cases hb : trimL b = []
    · rw [prod_zero_r a b hb]; exact Nat.zero_le _
    · have := sz_prod a b ha hb
      omega
theorem sz_sum_le (a b : List UInt8) (n : Nat) (ha : sz a ≤ n) (hb : sz b ≤ n) : sz (sumL [a, b]) ≤ n :=
  sz_le fun i hi => by rw [co_sum, sz_co a i (by omega), sz_co b i (by omega)]; rfl

/-! ### Division -/
theorem divA_ok (b : List UInt8) (inv : UInt8) (hb : 0 < b.length) (hinv : mulL (co b (b.length - 1)) inv = 1) : ∀ (k : Nat) (q r : List UInt8), k ≤ q.length → (0 < k → k + b.length ≤ r.length + 1) → (∀ j, j < k → co q j = 0) → (∀ j, k + b.length ≤ j + 1 → co r j = 0) →
    (∀ n, cv (co (divA b inv k q r).1) (co b) n ^^^ co (divA b inv k q r).2 n = cv (co q) (co b) n ^^^ co r n) ∧ ∀ j, b.length ≤ j + 1 → co (divA b inv k q r).2 j = 0
  | 0, q, r, _, _, _, h4 => ⟨fun n => rfl, fun j hj => h4 j (by omega)⟩
  | k + 1, q, r, h1, h2, h3, h4 => by
    have h2 := h2 (by omega)
    obtain ⟨c, hc⟩ : ∃ c, c = mulL (r.getD (k + b.length - 1) 0) inv := ⟨_, rfl⟩
    have hcr : c = mulL (co r (k + b.length - 1)) inv := hc
    rw [divA, ← hc]
    have hrow : ∀ j, co (rowA c r k b) j = co r j ^^^ sh k (fun i => mulL c (co b i)) j := fun j => co_rowA c b r k j (by omega)
    have hq : ∀ j, co (q.set k c) j = co q j ^^^ (if j = k then c else 0) := fun j => by
      rw [co_set _ _ _ _ (by omega)]
      by_cases h : j = k
      · rw [if_pos h, if_pos h, h, h3 k (by omega)]; simp
      · rw [if_neg h, if_neg h]; simp
    have ih := divA_ok b inv hb hinv k (q.set k c) (rowA c r k b) (by rw [List.length_set]; omega) (fun _ => by rw [rowA_len]; omega)
      (fun j hj => by rw [hq, h3 j (by omega), if_neg (by omega)]; rfl)
      (fun j hj => by
        rw [hrow]
        by_cases hj2 : k + b.length = j + 1
        · have hj3 : j = k + b.length - 1 := by omega
          unfold sh
          rw [if_neg (by omega), show j - k = b.length - 1 by omega, hcr, ← hj3]
          dsimp only
          rw [mul_assoc', mul_comm' inv, hinv, mul_one']
          simp
        · rw [h4 j (by omega)]
          unfold sh
          rw [if_neg (by omega)]
          dsimp only
          rw [co_ge b _ (by omega), mul_zero']
          rfl)
    refine ⟨fun n => ?_, ih.2⟩
    rw [ih.1 n, hrow n, cv_congr (f := co (q.set k c)) (fun j => hq j) (fun _ => rfl), cv_addl (co b) n (co q) (fun j => if j = k then c else 0), cv_delta]
    have : ∀ u v w : UInt8, u ^^^ v ^^^ (w ^^^ v) = u ^^^ w := fun u v w => by
      have : u ^^^ v ^^^ (w ^^^ v) = u ^^^ w ^^^ (v ^^^ v) := by ac_rfl
      rw [this]; simp
    exact this _ _ _
theorem lead_inv (b : List UInt8) (hb : trimL b ≠ []) : mulL (co (trimL b) ((trimL b).length - 1)) (invL ((trimL b).getD ((trimL b).length - 1) 0)) = 1 := by
  refine mul_inv' _ ?_
  show co (trimL b) (sz b - 1) ≠ 0
  rw [co_trim]
  exact trim_last b hb
/-- Any walk of the division, whatever room it has. -/
theorem div_any (a b r0 : List UInt8) (N M : Nat) (hb : trimL b ≠ []) (hr : ∀ i, co r0 i = co a i) (hN : N ≤ M) (h2 : 0 < N → N + sz b ≤ r0.length + 1) (h3 : sz a ≤ N + sz b - 1) :
    (∀ n, cv (co (divA (trimL b) (invL ((trimL b).getD ((trimL b).length - 1) 0)) N (List.replicate M 0) r0).1) (co b) n ^^^ co (divA (trimL b) (invL ((trimL b).getD ((trimL b).length - 1) 0)) N (List.replicate M 0) r0).2 n = co a n) ∧
    ∀ j, sz b ≤ j + 1 → co (divA (trimL b) (invL ((trimL b).getD ((trimL b).length - 1) 0)) N (List.replicate M 0) r0).2 j = 0 := by
  have h0 : 0 < (trimL b).length := List.length_pos_iff.2 hb
  have h := divA_ok (trimL b) _ h0 (lead_inv b hb) N (List.replicate M 0) r0 (by rw [List.length_replicate]; exact hN) h2 (fun j _ => co_zeros _ _) (fun j hj => by rw [hr]; exact sz_co a j (by unfold sz at *; omega))
  refine ⟨fun n => ?_, h.2⟩
  have := h.1 n
  rw [cv_zerol (co (trimL b)) n _ (fun i => co_zeros _ _), hr n, UInt8.zero_xor] at this
  rw [← this]
  congr 1
  exact cv_congr (fun _ => rfl) (fun i => (co_trim b i).symm) n
theorem div_ok (a b : List UInt8) (hb : trimL b ≠ []) : (∀ n, cv (co (divR a b).1) (co b) n ^^^ co (divR a b).2 n = co a n) ∧ ∀ j, sz b ≤ j + 1 → co (divR a b).2 j = 0 := by
  have h0 : 0 < sz b := List.length_pos_iff.2 hb
  exact div_any a b (trimL a) _ _ hb (fun i => co_trim a i) (Nat.le_refl _) (fun h => by unfold sz at *; omega) (by unfold sz at *; omega)
/-- There is but one quotient, and one remainder. -/
theorem div_unique (b q q' r r' : List UInt8) (hb : trimL b ≠ []) (h : ∀ n, cv (co q) (co b) n ^^^ co r n = cv (co q') (co b) n ^^^ co r' n) (hr : ∀ j, sz b ≤ j + 1 → co r j = 0) (hr' : ∀ j, sz b ≤ j + 1 → co r' j = 0) :
    trimL q = trimL q' ∧ trimL r = trimL r' := by
  have h0 : 0 < sz b := List.length_pos_iff.2 hb
  have x3 : ∀ u v w z : UInt8, u ^^^ v = w ^^^ z → u ^^^ w = v ^^^ z := fun u v w z h => by
    have : u ^^^ w = (u ^^^ v) ^^^ v ^^^ w := by rw [UInt8.xor_assoc u, UInt8.xor_self, UInt8.xor_zero]
    rw [this, h]
    have : w ^^^ z ^^^ v ^^^ w = v ^^^ z ^^^ (w ^^^ w) := by ac_rfl
    rw [this, UInt8.xor_self, UInt8.xor_zero]
  have hx : ∀ u v : UInt8, u ^^^ v = 0 → u = v := fun u v h => UInt8.xor_eq_zero_iff.1 h
  have hd : ∀ n, cv (co (xorL q q')) (co b) n = co r n ^^^ co r' n := fun n => by
    rw [cv_congr (fun i => co_xor q q' i) (fun _ => rfl), cv_addl]
    exact x3 _ _ _ _ (h n)
  have hz : trimL (xorL q q') = [] := Classical.byContradiction fun hne => by
    have h1 : 0 < sz (xorL q q') := List.length_pos_iff.2 hne
    have ht := (cv_top (sz b - 1) (co b) (fun i hi => sz_co b i (by omega)) (sz (xorL q q') - 1) (co (xorL q q')) fun i hi => sz_co _ i (by omega)).1
    rw [hd, hr _ (by omega), hr' _ (by omega)] at ht
    rcases mul_eq_zero' (a := co (xorL q q') (sz (xorL q q') - 1)) (b := co b (sz b - 1)) (by rw [← ht]; rfl) with e | e
    · exact trim_last _ hne e
    · exact trim_last b hb e
  have hq : ∀ i, co q i = co q' i := fun i => hx _ _ (by rw [← co_xor, ← co_trim, hz]; rfl)
  refine ⟨trim_ext _ _ hq, trim_ext _ _ fun i => ?_⟩
  refine (hx _ _ ?_)
  rw [← hd i]
  exact cv_zerol _ _ _ fun j => by rw [co_xor, hq j, UInt8.xor_self]
theorem div_sum (a b : List UInt8) (hb : trimL b ≠ []) : sumL [prodL (trimL (divR a b).1) b, trimL (divR a b).2] = trimL a := by
  rw [← sum_trim]
  refine trim_ext _ _ fun i => ?_
  rw [co_sum, co_prod, co_trim, ← (div_ok a b hb).1 i]
  congr 1
  exact cv_congr (fun i => co_trim _ i) (fun _ => rfl) i
theorem div_rem (a b : List UInt8) (hb : trimL b ≠ []) : sz (divR a b).2 < sz b := by
  have h0 : 0 < sz b := List.length_pos_iff.2 hb
  have := sz_le (p := (divR a b).2) (n := sz b - 1) fun j hj => (div_ok a b hb).2 j (by omega)
  omega
end Go.Proofs.YtifaanbnijnbdaaDoor.S6

namespace Go.Proofs.YtifaanbnijnbdaaDoor.S6
open Go Go.Proofs.YtifaanbnijnbdaaDoor.Vc Go.Proofs
set_option maxRecDepth 100000

/-! ### Roots -/
theorem horner_lin (z x : UInt8) : horner z [x, 1] = z ^^^ x := by
  show mulL (mulL 0 z ^^^ 1) z ^^^ x = _
  rw [zero_mul', UInt8.zero_xor, one_mul']
theorem horner_const (z c : UInt8) : horner z [c] = c := by
  show mulL 0 z ^^^ c = c
  rw [zero_mul', UInt8.zero_xor]
theorem trim_lin (x : UInt8) : trimL [x, 1] = [x, 1] := trimL_snoc 1 [x]
theorem sz_lin (x : UInt8) : sz [x, 1] = 2 := by unfold sz; rw [trim_lin]; rfl
theorem xor_zero_iff {a b : UInt8} : a ^^^ b = 0 ↔ a = b := UInt8.xor_eq_zero_iff
theorem sz_one {p : List UInt8} (h : sz p ≤ 1) (z : UInt8) : horner z p = co p 0 := by
  have e : ∀ i, co p i = co [co p 0] i := fun i => by
    cases i with
    | zero => rfl
    | succ i => rw [co_succ]; exact sz_co p _ (by omega)
  rw [horner_ext z e, horner_const]
theorem sum_nil (p : List UInt8) : sumL [p, []] = trimL p := by rw [sumL_two, xorL_nil]
/-- A root is split off. -/
theorem factor (p : List UInt8) (x : UInt8) (h : horner x p = 0) : trimL p = prodL (divQ p [x, 1]) [x, 1] := by
  have hb : trimL [x, 1] ≠ [] := by rw [trim_lin]; simp
  have h1 := div_sum p [x, 1] hb
  have h2 := div_rem p [x, 1] hb
  rw [sz_lin] at h2
  have h3 : horner x (trimL (divR p [x, 1]).2) = 0 := by
    have := congrArg (horner x) h1
    rw [horner_sum, horner_prod, horner_lin, UInt8.xor_self, mul_zero', UInt8.zero_xor] at this
    rw [this, horner_trim, h]
  have h4 : trimL (divR p [x, 1]).2 = [] := by
    refine trim_zero _ fun i => ?_
    cases i with
    | zero => rw [horner_trim, sz_one (by omega)] at h3; exact h3
    | succ i => exact sz_co _ _ (by omega)
  rw [h4, sum_nil] at h1
  rw [← h1]
  exact prod_trim _ _
theorem sz_factor (p : List UInt8) (x : UInt8) (h : horner x p = 0) (hp : trimL p ≠ []) : trimL (divQ p [x, 1]) ≠ [] ∧ sz (divQ p [x, 1]) + 1 = sz p := by
  have h1 := factor p x h
  have hq : trimL (divQ p [x, 1]) ≠ [] := fun e => by
    rw [prod_zero_l _ _ e] at h1
    exact hp h1
  have h2 := sz_prod (divQ p [x, 1]) [x, 1] hq (by rw [trim_lin]; simp)
  rw [sz_lin] at h2
  have h3 : sz p = sz (prodL (divQ p [x, 1]) [x, 1]) := by rw [← h1, sz_trim]
  exact ⟨hq, by omega⟩
/-- There are fewer roots than coefficients. -/
theorem roots_lt : ∀ (xs : List UInt8) (p : List UInt8), xs.Nodup → (∀ x ∈ xs, horner x p = 0) → trimL p ≠ [] → xs.length < sz p
  | [], p, _, _, hp => List.length_pos_iff.2 hp
  | x :: xs, p, hn, h, hp => by
    have h1 := factor p x (h x (by simp))
    obtain ⟨h2, h3⟩ := sz_factor p x (h x (by simp)) hp
    rw [List.nodup_cons] at hn
    have := roots_lt xs (divQ p [x, 1]) hn.2 (fun z hz => by
      have h4 : horner z (trimL p) = 0 := by rw [horner_trim]; exact h z (by simp [hz])
      rw [h1, horner_prod, horner_lin] at h4
      rcases mul_eq_zero' h4 with e | e
      · exact e
      · exact absurd (xor_zero_iff.1 e ▸ hz) hn.1) h2
    simp only [List.length_cons]
    omega
theorem poly_zero (xs : List UInt8) (p : List UInt8) (hn : xs.Nodup) (h : ∀ x ∈ xs, horner x p = 0) (hs : sz p ≤ xs.length) : trimL p = [] :=
  Classical.byContradiction fun hp => by
    have := roots_lt xs p hn h hp
    omega
/-- Polynomials that agree at enough places are one. -/
theorem poly_unique (xs p q : List UInt8) (hn : xs.Nodup) (h : ∀ x ∈ xs, horner x p = horner x q) (hp : sz p ≤ xs.length) (hq : sz q ≤ xs.length) : trimL p = trimL q := by
  have hz : trimL (xorL p q) = [] := poly_zero xs _ hn (fun x hx => by rw [horner_xor, h x hx, UInt8.xor_self]) (sz_le fun i hi => by rw [co_xor, sz_co p i (by omega), sz_co q i (by omega)]; rfl)
  refine trim_ext _ _ fun i => ?_
  have : co (xorL p q) i = 0 := by rw [← co_trim, hz]; rfl
  rw [co_xor] at this
  exact xor_zero_iff.1 this

/-! ### The product of all x - xs[k] -/
theorem roots_val (z : UInt8) : ∀ (xs p : List UInt8), (z ∈ xs → horner z (xs.foldl (fun p x => prodL p [x, 1]) p) = 0) ∧ (horner z p = 0 → horner z (xs.foldl (fun p x => prodL p [x, 1]) p) = 0)
  | [], p => ⟨fun h => by simp at h, fun h => h⟩
  | x :: xs, p => by
    obtain ⟨h1, h2⟩ := roots_val z xs (prodL p [x, 1])
    refine ⟨fun h => ?_, fun h => h2 (by rw [horner_prod, h, zero_mul'])⟩
    rcases List.mem_cons.1 h with e | e
    · exact h2 (by rw [horner_prod, horner_lin, e, UInt8.xor_self, mul_zero'])
    · exact h1 e
theorem rootsL_zero (xs : List UInt8) (z : UInt8) (h : z ∈ xs) : horner z (rootsL xs) = 0 := (roots_val z xs [1]).1 h
theorem roots_sz : ∀ (xs p : List UInt8), trimL p ≠ [] → trimL (xs.foldl (fun p x => prodL p [x, 1]) p) ≠ [] ∧ sz (xs.foldl (fun p x => prodL p [x, 1]) p) = sz p + xs.length
  | [], p, h => ⟨h, rfl⟩
  | x :: xs, p, h => by
    have hl : trimL [x, 1] ≠ [] := by rw [trim_lin]; simp
    have h1 := sz_prod p [x, 1] h hl
    rw [sz_lin] at h1
    have h2 : trimL (prodL p [x, 1]) ≠ [] := fun e => by
      rw [prod_trim] at e
      rcases prod_eq_nil e with e | e
      · exact h e
      · exact hl e
    obtain ⟨h3, h4⟩ := roots_sz xs (prodL p [x, 1]) h2
    exact ⟨h3, by show sz (xs.foldl _ (prodL p [x, 1])) = _; rw [h4]; simp only [List.length_cons]; omega⟩
theorem trim_one : trimL [1] = [1] := trimL_snoc 1 []
theorem rootsL_sz (xs : List UInt8) : trimL (rootsL xs) ≠ [] ∧ sz (rootsL xs) = xs.length + 1 := by
  obtain ⟨h1, h2⟩ := roots_sz xs [1] (by rw [trim_one]; simp)
  refine ⟨h1, ?_⟩
  have : sz [1] = 1 := by unfold sz; rw [trim_one]; rfl
  unfold rootsL
  omega

/-! ### The program's interpolation -/
theorem part_val (xs : List UInt8) (hn : xs.Nodup) (x y z : UInt8) (hx : x ∈ xs) (hz : z ∈ xs) : horner z (partL (rootsL xs) x y) = if z = x then y else 0 := by
  have hr := rootsL_zero xs
  have h1 := factor (rootsL xs) x (hr x hx)
  have hs := sz_factor (rootsL xs) x (hr x hx) (rootsL_sz xs).1
  have hq : ∀ z ∈ xs, z ≠ x → horner z (divQ (rootsL xs) [x, 1]) = 0 := fun z hz hne => by
    have h4 : horner z (trimL (rootsL xs)) = 0 := by rw [horner_trim]; exact hr z hz
    rw [h1, horner_prod, horner_lin] at h4
    rcases mul_eq_zero' h4 with e | e
    · exact e
    · exact absurd (xor_zero_iff.1 e) hne
  have hx0 : horner x (divQ (rootsL xs) [x, 1]) ≠ 0 := fun e => by
    have := roots_lt xs (divQ (rootsL xs) [x, 1]) hn (fun z hz => by
      by_cases hzx : z = x
      · rw [hzx]; exact e
      · exact hq z hz hzx) hs.1
    have := (rootsL_sz xs).2
    omega
  unfold partL
  rw [horner_prod, horner_const]
  by_cases hzx : z = x
  · rw [if_pos hzx, hzx]
    have : ∀ a b : UInt8, a ≠ 0 → mulL a (mulL b (invL a)) = b := fun a b ha => by
      rw [mul_comm' b, ← mul_assoc', mul_inv' a ha, one_mul']
    exact this _ _ hx0
  · rw [if_neg hzx, hq z hz hzx, zero_mul']
theorem part_sz (xs : List UInt8) (x y : UInt8) (hx : x ∈ xs) : sz (partL (rootsL xs) x y) ≤ xs.length := by
  have hs := sz_factor (rootsL xs) x (rootsL_zero xs x hx) (rootsL_sz xs).1
  have h1 := (rootsL_sz xs).2
  unfold partL
  have h2 := sz_prod_le (divQ (rootsL xs) [x, 1]) [mulL y (invL (horner x (divQ (rootsL xs) [x, 1])))]
  have h3 := sz_len [mulL y (invL (horner x (divQ (rootsL xs) [x, 1])))]
  simp only [List.length_cons, List.length_nil] at h3
  omega
/-- The sum of the values that belong to a place. -/
def at1 (z : UInt8) (zs : List (UInt8 × UInt8)) (s : UInt8) : UInt8 := zs.foldl (fun s q => s ^^^ (if z = q.1 then q.2 else 0)) s
theorem thrF_val (xs : List UInt8) (hn : xs.Nodup) (z : UInt8) (hz : z ∈ xs) : ∀ (zs : List (UInt8 × UInt8)) (p : List UInt8), (∀ q ∈ zs, q.1 ∈ xs) → horner z (zs.foldl (fun p q => sumL [p, partL (rootsL xs) q.1 q.2]) p) = at1 z zs (horner z p)
  | [], p, _ => rfl
  | q :: zs, p, h => by
    show horner z (zs.foldl _ (sumL [p, partL (rootsL xs) q.1 q.2])) = at1 z zs (horner z p ^^^ (if z = q.1 then q.2 else 0))
    rw [thrF_val xs hn z hz zs _ (fun r hr => h r (by simp [hr])), horner_sum, part_val xs hn q.1 q.2 z (h q (by simp)) hz]
theorem at1_zip (z : UInt8) : ∀ (xs ys : List UInt8) (s : UInt8), xs.Nodup → xs.length = ys.length → (z ∉ xs → at1 z (xs.zip ys) s = s) ∧ ∀ k, k < xs.length → xs.getD k 0 = z → at1 z (xs.zip ys) s = s ^^^ ys.getD k 0
  | [], ys, s, _, _ => ⟨fun _ => rfl, fun k h => by simp at h⟩
  | x :: xs, [], s, _, h => by simp at h
  | x :: xs, y :: ys, s, hn, hl => by
    rw [List.nodup_cons] at hn
    have ih := fun s => at1_zip z xs ys s hn.2 (by simpa using hl)
    refine ⟨fun h => ?_, fun k hk he => ?_⟩
    · have hne : z ≠ x := fun e => h (by simp [e])
      show at1 z (xs.zip ys) (s ^^^ if z = x then y else 0) = s
      rw [if_neg hne, (ih _).1 (fun hm => h (by simp [hm]))]
      simp
    · show at1 z (xs.zip ys) (s ^^^ if z = x then y else 0) = _
      cases k with
      | zero =>
        have e : x = z := he
        rw [if_pos e.symm, (ih _).1 (e ▸ hn.1)]
        rfl
      | succ k =>
        have he : xs.getD k 0 = z := he
        have hk : k < xs.length := by simpa using hk
        have hm : z ∈ xs := by rw [← he]; simp [List.getElem?_eq_getElem hk]
        have hne : z ≠ x := fun e => hn.1 (e ▸ hm)
        rw [if_neg hne, (ih _).2 k hk he]
        simp
theorem thrL_val (xs ys : List UInt8) (h : rightP xs ys) (k : Nat) (hk : k < xs.length) : horner (xs.getD k 0) (thrL xs ys) = ys.getD k 0 := by
  have hm : xs.getD k 0 ∈ xs := by simp [List.getElem?_eq_getElem hk]
  have h1 := thrF_val xs h.1 _ hm (xs.zip ys) [] fun q hq => (List.of_mem_zip hq).1
  have h2 := (at1_zip (xs.getD k 0) xs ys (horner (xs.getD k 0) []) h.1 h.2).2 k hk rfl
  unfold thrL thrF
  rw [h1, h2]
  show 0 ^^^ _ = _
  simp
theorem thrF_sz (xs : List UInt8) : ∀ (zs : List (UInt8 × UInt8)) (p : List UInt8), (∀ q ∈ zs, q.1 ∈ xs) → sz p ≤ xs.length → sz (zs.foldl (fun p q => sumL [p, partL (rootsL xs) q.1 q.2]) p) ≤ xs.length
  | [], p, _, h => h
  | q :: zs, p, hq, h => thrF_sz xs zs _ (fun r hr => hq r (by simp [hr])) (sz_sum_le _ _ _ h (part_sz xs q.1 q.2 (hq q (by simp))))
theorem thrL_sz (xs ys : List UInt8) : sz (thrL xs ys) ≤ xs.length := thrF_sz xs _ [] (fun q hq => (List.of_mem_zip hq).1) (Nat.zero_le _)
theorem fold_trim {α : Type} (f : List UInt8 → α → List UInt8) (hf : ∀ p a, trimL (f p a) = f p a) : ∀ (l : List α) (p : List UInt8), trimL p = p → trimL (l.foldl f p) = l.foldl f p
  | [], p, h => h
  | a :: l, p, _ => fold_trim f hf l _ (hf p a)
theorem thrL_trim (xs ys : List UInt8) : trimL (thrL xs ys) = thrL xs ys := fold_trim _ (fun p q => sum_trim _ _) _ _ rfl
/-- What it returns is the one polynomial through the points. -/
theorem thrL_unique (xs ys p : List UInt8) (h : rightP xs ys) (hp : sz p ≤ xs.length) (hv : ∀ k, k < xs.length → horner (xs.getD k 0) p = ys.getD k 0) : thrL xs ys = trimL p := by
  rw [← thrL_trim]
  refine poly_unique xs _ _ h.1 (fun x hx => ?_) (thrL_sz xs ys) hp
  obtain ⟨k, hk, rfl⟩ := List.mem_iff_getElem.1 hx
  have e : xs.getD k 0 = xs[k] := by simp [List.getElem?_eq_getElem hk]
  rw [← e, thrL_val xs ys h k hk, hv k hk]
end Go.Proofs.YtifaanbnijnbdaaDoor.S6

namespace Go.Proofs.YtifaanbnijnbdaaDoor.S6
open Go Go.Proofs.YtifaanbnijnbdaaDoor.Vc Go.Proofs
set_option maxRecDepth 100000
set_option linter.unusedVariables false

def decT (a b : List UInt8) (d w : Int) : List UInt8 × List Int × Int := (decL a b d w).getD ([], [], 0)
def sDecT : List V → Option (Prop × V × List Blk)
  | [.sl false .u8 a, .sl false .u8 b, .int .i64 d, .int .i64 w] => some (a.length ≤ 10000 ∧ b.length ≤ 10000 ∧ (decL a b d w).isSome = true, .tup [.own .u8 0, .own (.int .i64) 1, .int .i64 ((decT a b d w).2.2)], [.row true .u8 ((decT a b d w).1), .row true (.int .i64) ((decT a b d w).2.1)])
  | _ => none
theorem bDecT (a : List UInt8) (b : List UInt8) (d : Int) (w : Int) (hp0 : a.length ≤ 10000) (hp1 : b.length ≤ 10000) (hp2 : (decL a b d w).isSome = true) : bodyP ⟨C23, tys, G6⟩ Tryd.f16 [.o .u8, .o (.int .i64), .k] [.sl false .u8 a, .sl false .u8 b, .int .i64 d, .int .i64 w] (.tup [.own .u8 0, .own (.int .i64) 1, .int .i64 ((decT a b d w).2.2)]) [.row true .u8 ((decT a b d w).1), .row true (.int .i64) ((decT a b d w).2.1)] := by
  obtain ⟨x, hx⟩ := Option.isSome_iff_exists.1 hp2
  obtain ⟨p, l, e⟩ := x
  have h := bDec a b d w p l e hp0 hp1 hx
  unfold decT
  rw [hx]
  exact h
def CDecT : List (Nat × Con) := (16, pureC [.v (.sl .u8), .v (.sl .u8), .v (.int .i64), .v (.int .i64)] sDecT) :: C23
theorem kDecT : Known Tryd.prog ⟨CDecT, tys, G6⟩ := k23.add Tryd.func16 Tryd.call16 [.o .u8, .o (.int .i64), .k] fun ds p v bs h hp => by
  unfold sDecT at h
  split at h <;> simp only [Option.some.injEq, Prod.mk.injEq, reduceCtorEq] at h
  obtain ⟨rfl, rfl, rfl⟩ := h
  exact bDecT _ _ _ _ hp.1 hp.2.1 hp.2.2
end Go.Proofs.YtifaanbnijnbdaaDoor.S6

namespace Go.Proofs.YtifaanbnijnbdaaDoor.S6
open Go Go.Proofs.YtifaanbnijnbdaaDoor.Vc Go.Proofs
set_option maxRecDepth 100000
set_option linter.unusedVariables false

def sRMul : List V → Option (Prop × V × List Blk)
  | [.u8 a, .u8 b] => some (True, .u8 (mulL a b), [])
  | _ => none
theorem bRMul (a : UInt8) (b : UInt8)  : bodyP ⟨CDecT, tys, G6⟩ Tryd.f43 [.k] [.u8 a, .u8 b] (.u8 (mulL a b)) [] := by
  rw [← mul_same]
  exact bRmul a b
def CRMul : List (Nat × Con) := (43, pureC [.v .u8, .v .u8] sRMul) :: CDecT
theorem kRMul : Known Tryd.prog ⟨CRMul, tys, G6⟩ := kDecT.add Tryd.func43 Tryd.call43 [.k] fun ds p v bs h hp => by
  unfold sRMul at h
  split at h <;> simp only [Option.some.injEq, Prod.mk.injEq, reduceCtorEq] at h
  obtain ⟨rfl, rfl, rfl⟩ := h
  exact bRMul _ _
def rinvM (a : UInt8) : Nat → Nat → UInt8
  | 0, _ => 0
  | f + 1, b => if mulL a (UInt8.ofNat b) = 1 then UInt8.ofNat b else rinvM a f (b + 1)
theorem rinvM_same (a : UInt8) : ∀ f b, rinvM a f b = rinvF a f b
  | 0, b => rfl
  | f + 1, b => by unfold rinvM rinvF; rw [mul_same, rinvM_same a f]
theorem rinvM_ok (a : UInt8) : rinvM a 255 1 = invL a := by rw [rinvM_same]; exact inv_same a
def sRInv : List V → Option (Prop × V × List Blk)
  | [.u8 a] => some (True, .u8 (invL a), [])
  | _ => none
theorem bRInv (a : UInt8)  : bodyP ⟨CRMul, tys, G6⟩ Tryd.f44 [.k] [.u8 a] (.u8 (invL a)) [] := by
  refine ⟨0, [(0, .k), (3, .k)], fun n vs H => ∃ (b : Nat), 1 ≤ b ∧ b ≤ 256 ∧ rinvM a (256 - b) b = invL a ∧ n = 256 - b ∧ vs = [.u8 a, .int .i64 (b : Int)] ∧ H = [], ⟨rfl, 255, 1, by omega, by omega, rinvM_ok a, by omega, rfl, rfl⟩, ?_⟩
  rintro n vs H ⟨b, hc1_0, hc1_1, hc1_2, rfl, rfl, rfl⟩
  refine ⟨fun h0 => ?_, fun h0 => ?_⟩
  · replace h0 : (b : Int) < 256 := h0
    have hm : ((b : Int) % 256).toNat = b := by omega
    rw [show 256 - b = (255 - b) + 1 by omega, rinvM] at hc1_2
    refine ⟨trivial, fun h1 => ?_, fun h1 => ?_⟩
    · replace h1 : (mulL a (UInt8.ofNat ((b : Int) % 256).toNat)) = 1 := h1
      rw [hm] at h1
      rw [if_pos h1] at hc1_2
      refine ⟨rfl, rfl, ?_, rfl⟩
      show V.u8 (UInt8.ofNat ((b : Int) % 256).toNat) = .u8 (invL a)
      rw [hm, hc1_2]
    · replace h1 : ¬ ((mulL a (UInt8.ofNat ((b : Int) % 256).toNat)) = 1) := h1
      rw [hm] at h1
      refine ⟨⟨by omega, by omega⟩, ?_⟩
      rw [if_neg h1] at hc1_2
      exact ⟨rfl, 256 - (b + 1), by omega, b + 1, by omega, by omega, by rw [← hc1_2]; congr 1; omega, rfl, rfl, rfl⟩
  · replace h0 : ¬ ((b : Int) < 256) := h0
    have hb : b = 256 := by omega
    subst hb
    rw [← hc1_2]
    exact ⟨rfl, rfl, rfl, rfl⟩
def CRInv : List (Nat × Con) := (44, pureC [.v .u8] sRInv) :: CRMul
theorem kRInv : Known Tryd.prog ⟨CRInv, tys, G6⟩ := kRMul.add Tryd.func44 Tryd.call44 [.k] fun ds p v bs h hp => by
  unfold sRInv at h
  split at h <;> simp only [Option.some.injEq, Prod.mk.injEq, reduceCtorEq] at h
  obtain ⟨rfl, rfl, rfl⟩ := h
  exact bRInv _
def rEvA (x : UInt8) : List UInt8 → UInt8 → UInt8 → UInt8
  | [], _, s => s
  | c :: p, w, s => rEvA x p (mulL w x) (s ^^^ mulL c w)
theorem rEvA_ok (x : UInt8) : ∀ (p : List UInt8) (w s : UInt8), rEvA x p w s = s ^^^ mulL w (horner x p)
  | [], w, s => by simp [rEvA, horner, mul_zero']
  | c :: p, w, s => by
    rw [rEvA, rEvA_ok x p, horner, mulL_addr, mul_comm' c w, mul_comm' (horner x p) x, ← mul_assoc']
    ac_rfl
theorem reval_ok (x : UInt8) (p : List UInt8) : rEvA x p 1 0 = horner x p := by rw [rEvA_ok, one_mul']; simp
def sREval : List V → Option (Prop × V × List Blk)
  | [.sl false .u8 p, .u8 x] => some (p.length ≤ 1000000, .u8 (horner x p), [])
  | _ => none
theorem bREval (p : List UInt8) (x : UInt8) (hp0 : p.length ≤ 1000000) : bodyP ⟨CRInv, tys, G6⟩ Tryd.f24 [.k] [.sl false .u8 p, .u8 x] (.u8 (horner x p)) [] := by
  refine ⟨0, [(0, .k), (1, .k), (5, .k), (6, .k), (7, .k)], fun n vs H => ∃ (k : Nat) (s w : UInt8), k ≤ p.length ∧ rEvA x (p.drop k) w s = horner x p ∧ n = p.length - k ∧ vs = [.sl false .u8 p, .u8 x, .u8 s, .u8 w, .int .i64 (k : Int)] ∧ H = [], ⟨rfl, p.length, 0, 0, 1, by omega, reval_ok x p, by omega, rfl, rfl⟩, ?_⟩
  rintro n vs H ⟨k, s, w, hc1_0, hc1_1, rfl, rfl, rfl⟩
  refine ⟨fun h0 => ?_, fun h0 => ?_⟩
  · replace h0 : (k : Int) < (p.length : Int) := h0
    refine ⟨⟨by omega, by omega⟩, trivial, trivial, ⟨by omega, by omega⟩, ?_⟩
    rw [drop_one p k (by omega), rEvA] at hc1_1
    exact ⟨rfl, p.length - (k + 1), by omega, k + 1, _, _, by omega, hc1_1, rfl, rfl, rfl⟩
  · replace h0 : ¬ ((k : Int) < (p.length : Int)) := h0
    have hk : k = p.length := by omega
    rw [hk, List.drop_length, rEvA] at hc1_1
    rw [hc1_1]
    exact ⟨rfl, rfl, rfl, rfl⟩
def CREval : List (Nat × Con) := (24, pureC [.v (.sl .u8), .v .u8] sREval) :: CRInv
theorem kREval : Known Tryd.prog ⟨CREval, tys, G6⟩ := kRInv.add Tryd.func24 Tryd.call24 [.k] fun ds p v bs h hp => by
  unfold sREval at h
  split at h <;> simp only [Option.some.injEq, Prod.mk.injEq, reduceCtorEq] at h
  obtain ⟨rfl, rfl, rfl⟩ := h
  exact bREval _ _ hp
def sRDeg : List V → Option (Prop × V × List Blk)
  | [.sl false .u8 p] => some (p.length ≤ 1000000, .int .i64 (degL p), [])
  | _ => none
theorem bRDeg (p : List UInt8) (hp0 : p.length ≤ 1000000) : bodyP ⟨CREval, tys, G6⟩ Tryd.f26 [.k] [.sl false .u8 p] (.int .i64 (degL p)) [] := by
  refine ⟨0, [(0, .k), (3, .k), (4, .k)], fun n vs H => ∃ (k : Nat), k ≤ p.length ∧ n = p.length - k ∧ vs = [.sl false .u8 p, .int .i64 (degL (p.take k)), .int .i64 (k : Int)] ∧ H = [], ⟨rfl, p.length, 0, by omega, by omega, rfl, rfl⟩, ?_⟩
  rintro n vs H ⟨k, hc1_0, rfl, rfl, rfl⟩
  refine ⟨fun h0 => ?_, fun h0 => ?_⟩
  · replace h0 : (k : Int) < (p.length : Int) := h0
    refine ⟨⟨by omega, by omega⟩, fun h1 => ?_, fun h1 => ?_⟩
    · replace h1 : (p.getD k 0) ≠ 0 := h1
      refine ⟨⟨by omega, by omega⟩, ?_⟩
      have e : degL (p.take (k + 1)) = _ := congrArg (fun l : List UInt8 => (l.length : Int) - 1) (by rw [take_snoc p k (by omega), trimL_snoc])
      refine ⟨rfl, p.length - (k + 1), by omega, k + 1, by omega, rfl, ?_, rfl⟩
      rw [e]
      first | rw [if_pos (Classical.not_not.1 h1)] | (rw [if_neg h1]; simp only [List.length_append, List.length_take, List.length_cons, List.length_nil, Nat.min_eq_left hc1_0]; rw [show ((k + (0 + 1) : Nat) : Int) - 1 = k by omega])
      rfl
    · replace h1 : ¬ ((p.getD k 0) ≠ 0) := h1
      refine ⟨⟨by omega, by omega⟩, ?_⟩
      have e : degL (p.take (k + 1)) = _ := congrArg (fun l : List UInt8 => (l.length : Int) - 1) (by rw [take_snoc p k (by omega), trimL_snoc])
      refine ⟨rfl, p.length - (k + 1), by omega, k + 1, by omega, rfl, ?_, rfl⟩
      rw [e]
      first | rw [if_pos (Classical.not_not.1 h1)] | (rw [if_neg h1]; simp only [List.length_append, List.length_take, List.length_cons, List.length_nil, Nat.min_eq_left hc1_0]; rw [show ((k + (0 + 1) : Nat) : Int) - 1 = k by omega])
      rfl
  · replace h0 : ¬ ((k : Int) < (p.length : Int)) := h0
    have hk : k = p.length := by omega
    rw [hk, List.take_length]
    exact ⟨rfl, rfl, rfl, rfl⟩
def CRDeg : List (Nat × Con) := (26, pureC [.v (.sl .u8)] sRDeg) :: CREval
theorem kRDeg : Known Tryd.prog ⟨CRDeg, tys, G6⟩ := kREval.add Tryd.func26 Tryd.call26 [.k] fun ds p v bs h hp => by
  unfold sRDeg at h
  split at h <;> simp only [Option.some.injEq, Prod.mk.injEq, reduceCtorEq] at h
  obtain ⟨rfl, rfl, rfl⟩ := h
  exact bRDeg _ hp
def sRTrim : List V → Option (Prop × V × List Blk)
  | [.sl false .u8 p] => some (p.length ≤ 1000000, .own .u8 0, [.row true .u8 (trimL p)])
  | _ => none
theorem bRTrim (p : List UInt8) (hp0 : p.length ≤ 1000000) : bodyP ⟨CRDeg, tys, G6⟩ Tryd.f27 [.o .u8] [.sl false .u8 p] (.own .u8 0) [.row true .u8 (trimL p)] := by
  have h1 := trimL_len p
  have h2 : degL p = (trimL p).length - 1 := rfl
  refine ⟨by show p.length ≤ 1000000; first | omega | assumption, 0, [(0, .k), (3, .o .u8), (4, .k), (5, .k)], fun n vs H => ∃ (k : Nat), k ≤ (trimL p).length ∧ n = (trimL p).length - k ∧ vs = [.sl false .u8 p, .own .u8 0, .int .i64 (degL p), .int .i64 (k : Int)] ∧ H = [.row true .u8 (p.take k)], ⟨rfl, (trimL p).length, 0, by omega, by omega, rfl, rfl⟩, ?_⟩
  rintro n vs H ⟨k, hc1_0, rfl, rfl, rfl⟩
  have hl : (p.take k).length = k := by rw [List.length_take]; omega
  refine ⟨fun h0 => ?_, fun h0 => ?_⟩
  · replace h0 : (k : Int) ≤ (degL p) := h0
    refine ⟨⟨by omega, by omega⟩, ⟨rfl, rfl⟩, by show (p.take k).length + ([p.getD k 0] : List UInt8).length ≤ 1000000000; simp only [List.length_cons, List.length_nil]; omega, ⟨by omega, by omega⟩, ?_⟩
    refine ⟨rfl, (trimL p).length - (k + 1), by omega, k + 1, by omega, rfl, rfl, ?_⟩
    rw [take_snoc p k (by omega)]
    rfl
  · replace h0 : ¬ ((k : Int) ≤ (degL p)) := h0
    have hk : k = (trimL p).length := by omega
    rw [hk, trimL_take]
    exact ⟨rfl, rfl, rfl, rfl⟩
def CRTrim : List (Nat × Con) := (27, pureC [.v (.sl .u8)] sRTrim) :: CRDeg
theorem kRTrim : Known Tryd.prog ⟨CRTrim, tys, G6⟩ := kRDeg.add Tryd.func27 Tryd.call27 [.o .u8] fun ds p v bs h hp => by
  unfold sRTrim at h
  split at h <;> simp only [Option.some.injEq, Prod.mk.injEq, reduceCtorEq] at h
  obtain ⟨rfl, rfl, rfl⟩ := h
  exact bRTrim _ hp
theorem xorL_step (z l : List UInt8) (k : Nat) (hk : k < l.length) (hl : l.length ≤ z.length) : xorL z (l.take (k + 1)) = (xorL z (l.take k)).set k ((xorL z (l.take k)).getD k 0 ^^^ l.getD k 0) := by
  have h := xorL_snoc (l.getD k 0) z (l.take k)
  rw [← take_snoc l k hk, List.length_take, Nat.min_eq_left (by omega), xorL_length, List.length_take, Nat.min_eq_left (by omega : k ≤ l.length), Nat.max_eq_left (by omega : k ≤ z.length), if_neg (by omega)] at h
  exact h
theorem xorL_zeros : ∀ (n : Nat) (a : List UInt8), n ≤ a.length → xorL (List.replicate n 0) a = a
  | 0, a, h => by cases a <;> rfl
  | n + 1, [], h => by simp at h
  | n + 1, x :: a, h => by rw [List.replicate_succ, xorL, xorL_zeros n a (by simpa using h)]; simp
theorem trimL_zeros (a : List UInt8) : ∀ n, trimL (a ++ List.replicate n 0) = trimL a
  | 0 => by simp
  | n + 1 => by rw [List.replicate_succ', ← List.append_assoc, trimL_snoc, if_pos rfl, trimL_zeros a n]
theorem xorL_zeros_ge : ∀ (n : Nat) (a : List UInt8), a.length ≤ n → xorL (List.replicate n 0) a = a ++ List.replicate (n - a.length) 0
  | n, [], h => by simp [xorL_nil]
  | 0, x :: a, h => by simp at h
  | n + 1, x :: a, h => by rw [List.replicate_succ, xorL, xorL_zeros_ge n a (by simpa using h)]; simp
theorem xorL_pad : ∀ (a b : List UInt8) (n : Nat), ∃ m, xorL (a ++ List.replicate n 0) b = xorL a b ++ List.replicate m 0
  | [], b, n => by
    rw [List.nil_append, xorL]
    rcases Nat.le_total n b.length with h | h
    · exact ⟨0, by rw [xorL_zeros n b h]; simp⟩
    · exact ⟨_, xorL_zeros_ge n b h⟩
  | x :: a, [], n => ⟨n, by simp [xorL]⟩
  | x :: a, y :: b, n => by
    obtain ⟨m, hm⟩ := xorL_pad a b n
    exact ⟨m, by rw [List.cons_append, xorL, hm, xorL]; rfl⟩
theorem radd_ok (a b : List UInt8) : trimL (xorL (xorL (List.replicate (max a.length b.length) 0) a) b) = sumL [a, b] := by
  have e : sumL [a, b] = trimL (xorL a b) := by simp [sumL, sumA, xorL]
  rw [e, xorL_zeros_ge _ a (by omega)]
  obtain ⟨m, hm⟩ := xorL_pad a b (max a.length b.length - a.length)
  rw [hm, trimL_zeros]
def sRAdd : List V → Option (Prop × V × List Blk)
  | [.sl false .u8 a, .sl false .u8 b] => some (a.length ≤ 1000000 ∧ b.length ≤ 1000000, .own .u8 0, [.row true .u8 (sumL [a, b])])
  | _ => none
theorem bRAdd (a : List UInt8) (b : List UInt8) (hp0 : a.length ≤ 1000000) (hp1 : b.length ≤ 1000000) : bodyP ⟨CRTrim, tys, G6⟩ Tryd.f29 [.o .u8] [.sl false .u8 a, .sl false .u8 b] (.own .u8 0) [.row true .u8 (sumL [a, b])] := by
  obtain ⟨z, hz⟩ : ∃ z : List UInt8, z = List.replicate (max a.length b.length) 0 := ⟨_, rfl⟩
  have hzl : z.length = max a.length b.length := by rw [hz, List.length_replicate]
  have hmx : (max (a.length : Int) (b.length : Int)).toNat = max a.length b.length := by omega
  refine ⟨⟨rfl, by omega, by omega⟩, 0, [(0, .k), (1, .k), (5, .o .u8), (6, .k)], fun n vs H => ∃ (k : Nat), k ≤ a.length ∧ n = a.length - k ∧ vs = [.sl false .u8 a, .sl false .u8 b, .own .u8 0, .int .i64 (k : Int)] ∧ H = [.row true .u8 (xorL z (a.take k))], ⟨rfl, a.length, 0, by omega, by omega, rfl, by rw [List.take_zero, xorL_nil, hz, ← hmx]; rfl⟩, ?_⟩
  rintro n vs H ⟨k, hc1_0, rfl, rfl, rfl⟩
  have hl : (xorL z (a.take k)).length = max a.length b.length := by rw [xorL_length, List.length_take]; omega
  refine ⟨fun h0 => ?_, fun h0 => ?_⟩
  · replace h0 : (k : Int) < (a.length : Int) := h0
    refine ⟨by kernel_rfl, ⟨by omega, by omega⟩, ⟨by omega, by omega⟩, ⟨by omega, by omega⟩, ⟨rfl, rfl⟩, ⟨by omega, by omega⟩, ?_⟩
    exact ⟨rfl, a.length - (k + 1), by omega, k + 1, by omega, rfl, rfl, by rw [xorL_step z a k (by omega) (by omega)]; rfl⟩
  · replace h0 : ¬ ((k : Int) < (a.length : Int)) := h0
    have hk : k = a.length := by omega
    refine ⟨0, [(1, .k), (5, .o .u8), (7, .k)], fun n vs H => ∃ (k : Nat), k ≤ b.length ∧ n = b.length - k ∧ vs = [.sl false .u8 b, .own .u8 0, .int .i64 (k : Int)] ∧ H = [.row true .u8 (xorL (xorL z a) (b.take k))], ⟨rfl, b.length, 0, by omega, by omega, rfl, by rw [hk]; rw [List.take_zero, xorL_nil, List.take_length]; rfl⟩, ?_⟩
    rintro n vs H ⟨k, hc2_0, rfl, rfl, rfl⟩
    have hl : (xorL (xorL z a) (b.take k)).length = max a.length b.length := by rw [xorL_length, xorL_length, List.length_take]; omega
    refine ⟨fun h1 => ?_, fun h1 => ?_⟩
    · replace h1 : (k : Int) < (b.length : Int) := h1
      refine ⟨by kernel_rfl, ⟨by omega, by omega⟩, ⟨by omega, by omega⟩, ⟨by omega, by omega⟩, ⟨rfl, rfl⟩, ⟨by omega, by omega⟩, ?_⟩
      exact ⟨rfl, b.length - (k + 1), by omega, k + 1, by omega, rfl, rfl, by rw [xorL_step (xorL z a) b k (by omega) (by rw [xorL_length]; omega)]; rfl⟩
    · replace h1 : ¬ ((k : Int) < (b.length : Int)) := h1
      have hk : k = b.length := by omega
      refine ⟨by show (xorL (xorL z a) (b.take k)).length ≤ 1000000; first | omega | assumption | (simp only [List.length_cons, List.length_nil, List.length_append, List.length_take, List.length_drop, List.length_set, List.length_replicate]; omega), ?_⟩
      rw [hk, List.take_length, hz, radd_ok]
      exact ⟨rfl, rfl, rfl, rfl⟩
def CRAdd : List (Nat × Con) := (29, pureC [.v (.sl .u8), .v (.sl .u8)] sRAdd) :: CRTrim
theorem kRAdd : Known Tryd.prog ⟨CRAdd, tys, G6⟩ := kRTrim.add Tryd.func29 Tryd.call29 [.o .u8] fun ds p v bs h hp => by
  unfold sRAdd at h
  split at h <;> simp only [Option.some.injEq, Prod.mk.injEq, reduceCtorEq] at h
  obtain ⟨rfl, rfl, rfl⟩ := h
  exact bRAdd _ _ hp.1 hp.2
def sRProd : List V → Option (Prop × V × List Blk)
  | [.sl false .u8 a, .sl false .u8 b] => some (a.length ≤ 100000 ∧ b.length ≤ 100000, .own .u8 0, [.row true .u8 (prodL a b)])
  | _ => none
theorem bRProd (a : List UInt8) (b : List UInt8) (hp0 : a.length ≤ 100000) (hp1 : b.length ≤ 100000) : bodyP ⟨CRAdd, tys, G6⟩ Tryd.f33 [.o .u8] [.sl false .u8 a, .sl false .u8 b] (.own .u8 0) [.row true .u8 (prodL a b)] := by
  obtain ⟨fin, hfin⟩ : ∃ fin, fin = prodA b (List.replicate (a.length + b.length) 0) 0 a := ⟨_, rfl⟩
  have hfl : fin.length = a.length + b.length := by rw [hfin, prodA_len, List.length_replicate]
  have hab : ((a.length : Int) + (b.length : Int)).toNat = a.length + b.length := by omega
  refine ⟨⟨by omega, by omega⟩, ⟨rfl, by omega, by omega⟩, 0, [(0, .k), (1, .k), (5, .o .u8), (6, .k)], fun n vs H => ∃ (i : Nat) (cur : List UInt8), i ≤ a.length ∧ cur.length = a.length + b.length ∧ prodA b cur i (a.drop i) = fin ∧ n = a.length - i ∧ vs = [.sl false .u8 a, .sl false .u8 b, .own .u8 0, .int .i64 (i : Int)] ∧ H = [.row true .u8 cur], ⟨rfl, a.length, 0, List.replicate (a.length + b.length) 0, by omega, by rw [List.length_replicate], hfin.symm, by omega, rfl, by rw [← hab]; rfl⟩, ?_⟩
  rintro n vs H ⟨i, cur, hc1_0, hc1_1, hc1_2, rfl, rfl, rfl⟩
  refine ⟨fun h0 => ?_, fun h0 => ?_⟩
  · replace h0 : (i : Int) < (a.length : Int) := h0
    rw [drop_one a i (by omega), prodA] at hc1_2
    refine ⟨0, [(0, .k), (1, .k), (5, .o .u8), (6, .k), (7, .k)], fun n vs H => ∃ (k : Nat) (c2 : List UInt8), k ≤ b.length ∧ c2.length = a.length + b.length ∧ rowA (a.getD i 0) c2 (i + k) (b.drop k) = rowA (a.getD i 0) cur i b ∧ n = b.length - k ∧ vs = [.sl false .u8 a, .sl false .u8 b, .own .u8 0, .int .i64 (i : Int), .int .i64 (k : Int)] ∧ H = [.row true .u8 c2], ⟨rfl, b.length, 0, cur, by omega, hc1_1, rfl, by omega, rfl, rfl⟩, ?_⟩
    rintro n vs H ⟨k, c2, hc2_0, hc2_1, hc2_2, rfl, rfl, rfl⟩
    refine ⟨fun h1 => ?_, fun h1 => ?_⟩
    · replace h1 : (k : Int) < (b.length : Int) := h1
      refine ⟨by kernel_rfl, ⟨by omega, by omega⟩, ⟨by omega, by omega⟩, ⟨by omega, by omega⟩, ⟨by omega, by omega⟩, ⟨by omega, by omega⟩, trivial, ⟨by omega, by omega⟩, ⟨rfl, rfl⟩, ⟨by omega, by omega⟩, ?_⟩
      rw [drop_one b k (by omega), rowA] at hc2_2
      exact ⟨rfl, b.length - (k + 1), by omega, k + 1, _, by omega, by rw [addAt_len]; exact hc2_1, hc2_2, rfl, rfl, rfl⟩
    · replace h1 : ¬ ((k : Int) < (b.length : Int)) := h1
      have hk : k = b.length := by omega
      rw [hk, List.drop_length, rowA] at hc2_2
      refine ⟨⟨by omega, by omega⟩, ?_⟩
      exact ⟨rfl, a.length - (i + 1), by omega, i + 1, c2, by omega, hc2_1, by rw [hc2_2]; exact hc1_2, rfl, rfl, rfl⟩
  · replace h0 : ¬ ((i : Int) < (a.length : Int)) := h0
    refine ⟨by show cur.length ≤ 1000000; first | omega | assumption, ?_⟩
    have hi : i = a.length := by omega
    rw [hi, List.drop_length, prodA] at hc1_2
    rw [hc1_2, hfin]
    exact ⟨rfl, rfl, rfl, rfl⟩
def CRProd : List (Nat × Con) := (33, pureC [.v (.sl .u8), .v (.sl .u8)] sRProd) :: CRAdd
theorem kRProd : Known Tryd.prog ⟨CRProd, tys, G6⟩ := kRAdd.add Tryd.func33 Tryd.call33 [.o .u8] fun ds p v bs h hp => by
  unfold sRProd at h
  split at h <;> simp only [Option.some.injEq, Prod.mk.injEq, reduceCtorEq] at h
  obtain ⟨rfl, rfl, rfl⟩ := h
  exact bRProd _ _ hp.1 hp.2
end Go.Proofs.YtifaanbnijnbdaaDoor.S6

namespace Go.Proofs.YtifaanbnijnbdaaDoor.S6
open Go Go.Proofs.YtifaanbnijnbdaaDoor.Vc Go.Proofs
set_option maxRecDepth 100000
set_option linter.unusedVariables false

def rdD (a b : List UInt8) : List UInt8 × List UInt8 :=
  divA (trimL b) (invL ((trimL b).getD ((trimL b).length - 1) 0)) (a.length + 1 - (trimL b).length) (List.replicate (a.length + 1) 0) a
def rdQ (a b : List UInt8) : List UInt8 := if longB a b then [] else if trimL b = [] then [] else trimL (rdD a b).1
def rdR (a b : List UInt8) : List UInt8 := if longB a b then [] else if trimL b = [] then [] else trimL (rdD a b).2
theorem trimL_getD (b : List UInt8) (i : Nat) (h : i < (trimL b).length) : b.getD i 0 = (trimL b).getD i 0 := by
  conv => rhs; rw [← trimL_take b]
  simp [List.getD_eq_getElem?_getD, List.getElem?_take, h]
def sRDivMod : List V → Option (Prop × V × List Blk)
  | [.sl false .u8 a, .sl false .u8 b] => some (a.length ≤ 100000 ∧ b.length ≤ 100000, .agg [.own .u8 0, .own .u8 1, .int .i64 (dmE a b)], [.row true .u8 (rdQ a b), .row true .u8 (rdR a b)])
  | _ => none
theorem bRDivMod (a : List UInt8) (b : List UInt8) (hp0 : a.length ≤ 100000) (hp1 : b.length ≤ 100000) : bodyP ⟨CRProd, tys, G6⟩ Tryd.f32 [.o .u8, .o .u8, .k] [.sl false .u8 a, .sl false .u8 b] (.agg [.own .u8 0, .own .u8 1, .int .i64 (dmE a b)]) [.row true .u8 (rdQ a b), .row true .u8 (rdR a b)] := by
  have htb := trimL_len b
  have hd : degL b = (trimL b).length - 1 := rfl
  have hz : trimL b = [] ↔ degL b < 0 := by
    rw [hd]
    constructor
    · intro h; rw [h]; decide
    · intro h; exact List.eq_nil_of_length_eq_zero (by omega)
  obtain ⟨inv, hinv⟩ : ∃ inv, inv = invL ((trimL b).getD ((trimL b).length - 1) 0) := ⟨_, rfl⟩
  obtain ⟨N, hN⟩ : ∃ N, N = a.length + 1 - (trimL b).length := ⟨_, rfl⟩
  have hfin : rdD a b = divA (trimL b) inv N (List.replicate (a.length + 1) 0) a := by rw [hinv, hN]; rfl
  have hfl := divA_len (trimL b) inv N (List.replicate (a.length + 1) 0) a
  rw [← hfin, List.length_replicate] at hfl
  refine ⟨fun h0 => ?_, fun h0 => ?_⟩
  · replace h0 : ¬ (256 < (a.length : Int)) := h0
    refine ⟨fun h1 => ?_, fun h1 => ?_⟩
    · replace h1 : 256 < (b.length : Int) := h1
      have h2 : 256 < b.length := by omega
      have hl : longB a b = true := by simp [longB, h2]
      rw [show dmE a b = 2 from if_pos hl, show rdQ a b = [] from if_pos hl, show rdR a b = [] from if_pos hl]
      refine ⟨⟨rfl, rfl, rfl, Nat.le_of_ble_eq_true rfl⟩, ?_⟩
      exact ⟨rfl, rfl, rfl, rfl⟩
    · replace h1 : ¬ (256 < (b.length : Int)) := h1
      have h2 : ¬ 256 < a.length := by omega
      have h3 : ¬ 256 < b.length := by omega
      have hl : ¬ longB a b = true := by simp [longB, h2, h3]
      rw [show dmE a b = _ from if_neg hl, show rdQ a b = _ from if_neg hl, show rdR a b = _ from if_neg hl]
      refine ⟨by show b.length ≤ 1000000; first | omega | assumption, fun h2 => ?_, fun h2 => ?_⟩
      · replace h2 : (degL b) < 0 := h2
        have h4 : trimL b = [] := hz.2 h2
        rw [if_pos h4, if_pos h4, if_pos h4]
        refine ⟨⟨rfl, rfl, rfl, Nat.le_of_ble_eq_true rfl⟩, ?_⟩
        exact ⟨rfl, rfl, rfl, rfl⟩
      · replace h2 : ¬ ((degL b) < 0) := h2
        have h4 : ¬ trimL b = [] := fun h => h2 (hz.1 h)
        rw [if_neg h4, if_neg h4, if_neg h4]
        have hb1 : invL (b.getD (degL b).toNat 0) = inv := by rw [hinv, trimL_getD b _ (by omega)]; congr 2; omega
        have hn : ((a.length : Int) + 1).toNat = a.length + 1 := by omega
        refine ⟨⟨by omega, by omega⟩, trivial, ⟨by omega, by omega⟩, ⟨rfl, by omega, by omega⟩, ⟨rfl, rfl⟩, by show ([] : List UInt8).length + a.length ≤ 1000000000; simp only [List.length_cons, List.length_nil]; omega, ⟨by omega, by omega⟩, 1, [(1, .k), (4, .k), (5, .k), (6, .k), (7, .o .u8), (8, .o .u8), (9, .k)], fun n vs H => ∃ (k : Int) (q r : List UInt8), k < a.length ∧ (degL b - 1 ≤ k ∨ (a.length : Int) ≤ k + 1) ∧ -1 ≤ k ∧ (q.length = a.length + 1 ∧ r.length = a.length) ∧ divA (trimL b) inv (k + 1 - degL b).toNat q r = rdD a b ∧ n = (k + 1).toNat ∧ vs = [.sl false .u8 b, .ptr 0 1 0 0, .int .i64 (degL b), .u8 inv, .own .u8 1, .own .u8 2, .int .i64 k] ∧ H = [.cells [.nils, .nils, .int .i64 0], .row true .u8 q, .row true .u8 r], ⟨rfl, a.length, a.length - 1, List.replicate (a.length + 1) 0, a, by omega, by omega, by omega, ⟨by rw [List.length_replicate], rfl⟩, by rw [hfin]; congr 1; omega, by omega, by rw [← hb1]; rfl, by rw [← hn]; rfl⟩, ?_⟩
        rintro n vs H ⟨k, q, r, hc1_0, hc1_1, hc1_2, hc1_3, hc1_4, rfl, rfl, rfl⟩
        obtain ⟨hq, hr⟩ := hc1_3
        refine ⟨fun h3 => ?_, fun h3 => ?_⟩
        · replace h3 : (degL b) ≤ k := h3
          have e1 : (k + 1 - degL b).toNat = (k - degL b).toNat + 1 := by omega
          rw [e1, divA] at hc1_4
          have e2 : (k - degL b).toNat + (trimL b).length - 1 = k.toNat := by omega
          rw [e2] at hc1_4
          refine ⟨⟨by omega, by omega⟩, trivial, ⟨by omega, by omega⟩, ⟨by omega, by omega⟩, ⟨rfl, rfl⟩, 1, [(1, .k), (4, .k), (5, .k), (6, .k), (7, .o .u8), (8, .o .u8), (9, .k), (10, .k), (11, .k)], fun n vs H => ∃ (i : Nat) (r2 : List UInt8), i ≤ (trimL b).length ∧ r2.length = a.length ∧ rowA (mulL (r.getD k.toNat 0) inv) r2 ((k - degL b).toNat + i) ((trimL b).drop i) = rowA (mulL (r.getD k.toNat 0) inv) r (k - degL b).toNat (trimL b) ∧ n = (trimL b).length - i ∧ vs = [.sl false .u8 b, .ptr 0 1 0 0, .int .i64 (degL b), .u8 inv, .own .u8 1, .own .u8 2, .int .i64 k, .u8 (mulL (r.getD k.toNat 0) inv), .int .i64 (i : Int)] ∧ H = [.cells [.nils, .nils, .int .i64 0], .row true .u8 (q.set ((k - (degL b)).toNat) (mulL (r.getD k.toNat 0) inv)), .row true .u8 r2], ⟨rfl, (trimL b).length, 0, r, by omega, hr, rfl, by omega, rfl, rfl⟩, ?_⟩
          rintro n vs H ⟨i, r2, hc2_0, hc2_1, hc2_2, rfl, rfl, rfl⟩
          refine ⟨fun h4 => ?_, fun h4 => ?_⟩
          · replace h4 : (i : Int) ≤ (degL b) := h4
            refine ⟨by kernel_rfl, ⟨by omega, by omega⟩, ⟨by omega, by omega⟩, ⟨by omega, by omega⟩, ⟨by omega, by omega⟩, ⟨by omega, by omega⟩, ⟨by omega, by omega⟩, trivial, ⟨by omega, by omega⟩, ⟨rfl, rfl⟩, ⟨by omega, by omega⟩, ?_⟩
            rw [drop_one (trimL b) i (by omega), rowA] at hc2_2
            have e3 : (k - degL b + (i : Int)).toNat = (k - degL b).toNat + i := by omega
            have e4 : b.getD i 0 = (trimL b).getD i 0 := trimL_getD b i (by omega)
            refine ⟨rfl, (trimL b).length - (i + 1), by omega, i + 1, _, by omega, ?_, hc2_2, rfl, rfl, ?_⟩
            · rw [addAt_len]; exact hc2_1
            · show [Blk.cells _, Blk.row true .u8 _, Blk.row true .u8 (r2.set (k - degL b + (i : Int)).toNat (r2.getD (k - degL b + (i : Int)).toNat 0 ^^^ mulL (mulL (r.getD k.toNat 0) inv) (b.getD i 0)))] = _
              rw [e3, e4]
              rfl
          · replace h4 : ¬ ((i : Int) ≤ (degL b)) := h4
            refine ⟨⟨by omega, by omega⟩, ?_⟩
            have hi : i = (trimL b).length := by omega
            rw [hi, List.drop_length, rowA] at hc2_2
            exact ⟨rfl, k.toNat, by omega, k - 1, _, r2, by omega, by omega, by omega, ⟨by rw [List.length_set]; exact hq, hc2_1⟩, by rw [hc2_2, show k - 1 + 1 - degL b = k - degL b by omega]; exact hc1_4, by omega, rfl, rfl⟩
        · replace h3 : ¬ ((degL b) ≤ k) := h3
          refine ⟨by show q.length ≤ 1000000; first | omega | assumption, by show r.length ≤ 1000000; first | omega | assumption, ⟨rfl, rfl, rfl, Nat.le_of_ble_eq_true rfl⟩, ?_⟩
          have e1 : (k + 1 - degL b).toNat = 0 := by omega
          rw [e1, divA] at hc1_4
          rw [← hc1_4]
          exact ⟨rfl, rfl, rfl, rfl⟩
  · replace h0 : 256 < (a.length : Int) := h0
    have h2 : 256 < a.length := by omega
    have hl : longB a b = true := by simp [longB, h2]
    rw [show dmE a b = 2 from if_pos hl, show rdQ a b = [] from if_pos hl, show rdR a b = [] from if_pos hl]
    refine ⟨⟨rfl, rfl, rfl, Nat.le_of_ble_eq_true rfl⟩, ?_⟩
    exact ⟨rfl, rfl, rfl, rfl⟩
def CRDivMod : List (Nat × Con) := (32, pureC [.v (.sl .u8), .v (.sl .u8)] sRDivMod) :: CRProd
theorem kRDivMod : Known Tryd.prog ⟨CRDivMod, tys, G6⟩ := kRProd.add Tryd.func32 Tryd.call32 [.o .u8, .o .u8, .k] fun ds p v bs h hp => by
  unfold sRDivMod at h
  split at h <;> simp only [Option.some.injEq, Prod.mk.injEq, reduceCtorEq] at h
  obtain ⟨rfl, rfl, rfl⟩ := h
  exact bRDivMod _ _ hp.1 hp.2
def sRRight : List V → Option (Prop × V × List Blk)
  | [.sl false .u8 a, .sl false .u8 b] => some (a.length ≤ 2000000 ∧ b.length ≤ 2000000, .b (rightP a b), [])
  | _ => none
theorem bRRight (a : List UInt8) (b : List UInt8) (hp0 : a.length ≤ 2000000) (hp1 : b.length ≤ 2000000) : bodyP ⟨CRDivMod, tys, G6⟩ Tryd.f19 [.k] [.sl false .u8 a, .sl false .u8 b] (.b (rightP a b)) [] := by
  refine ⟨0, [(0, .k), (1, .k), (5, .k)], fun n vs H => ∃ (i : Nat), i ≤ a.length ∧ (a.take i).Nodup ∧ n = a.length - i ∧ vs = [.sl false .u8 a, .sl false .u8 b, .int .i64 (i : Int)] ∧ H = [], ⟨rfl, a.length, 0, by omega, by simp, by omega, rfl, rfl⟩, ?_⟩
  rintro n vs H ⟨i, hc1_0, hc1_1, rfl, rfl, rfl⟩
  refine ⟨fun h0 => ?_, fun h0 => ?_⟩
  · replace h0 : (i : Int) < (a.length : Int) := h0
    refine ⟨0, [(0, .k), (1, .k), (5, .k), (6, .k)], fun n vs H => ∃ (k : Nat), k ≤ i ∧ a.getD i 0 ∉ a.take k ∧ n = i - k ∧ vs = [.sl false .u8 a, .sl false .u8 b, .int .i64 (i : Int), .int .i64 (k : Int)] ∧ H = [], ⟨rfl, i, 0, by omega, by simp, by omega, rfl, rfl⟩, ?_⟩
    rintro n vs H ⟨k, hc2_0, hc2_1, rfl, rfl, rfl⟩
    refine ⟨fun h1 => ?_, fun h1 => ?_⟩
    · replace h1 : (k : Int) < (i : Int) := h1
      refine ⟨by kernel_rfl, ⟨by omega, by omega⟩, ⟨by omega, by omega⟩, fun h2 => ?_, fun h2 => ?_⟩
      · replace h2 : (a.getD i 0) = (a.getD k 0) := h2
        have hno : ¬ rightP a b := fun h => by
          have h3 : (a.take (i + 1)).Nodup := h.1.sublist (List.take_sublist _ _)
          rw [take_snoc a i (by omega), nodup_snoc] at h3
          refine h3.2 ?_
          rw [h2]
          have h4 : a.take (k + 1) = a.take k ++ [a.getD k 0] := take_snoc a k (by omega)
          have h5 : a.getD k 0 ∈ a.take (k + 1) := by rw [h4]; simp
          exact (List.take_sublist_take_left (by omega : k + 1 ≤ i)).subset h5
        exact ⟨rfl, rfl, congrArg V.b (propext ⟨fun h => absurd h (by decide), fun h => absurd h hno⟩), rfl⟩
      · replace h2 : ¬ ((a.getD i 0) = (a.getD k 0)) := h2
        refine ⟨⟨by omega, by omega⟩, ?_⟩
        refine ⟨rfl, i - (k + 1), by omega, k + 1, by omega, ?_, rfl, rfl, rfl⟩
        rw [take_snoc a k (by omega), List.mem_append, List.mem_singleton]
        exact fun h => h.elim hc2_1 h2
    · replace h1 : ¬ ((k : Int) < (i : Int)) := h1
      refine ⟨⟨by omega, by omega⟩, ?_⟩
      have hk : k = i := by omega
      exact ⟨rfl, a.length - (i + 1), by omega, i + 1, by omega, by rw [take_snoc a i (by omega), nodup_snoc]; exact ⟨hc1_1, hk ▸ hc2_1⟩, rfl, rfl, rfl⟩
  · replace h0 : ¬ ((i : Int) < (a.length : Int)) := h0
    have hi : i = a.length := by omega
    rw [hi, List.take_length] at hc1_1
    refine ⟨rfl, rfl, congrArg V.b (propext ?_), rfl⟩
    show (a.length : Int) = b.length ↔ rightP a b
    exact ⟨fun h => ⟨hc1_1, by omega⟩, fun h => by have := h.2; omega⟩
def CRRight : List (Nat × Con) := (19, pureC [.v (.sl .u8), .v (.sl .u8)] sRRight) :: CRDivMod
theorem kRRight : Known Tryd.prog ⟨CRRight, tys, G6⟩ := kRDivMod.add Tryd.func19 Tryd.call19 [.k] fun ds p v bs h hp => by
  unfold sRRight at h
  split at h <;> simp only [Option.some.injEq, Prod.mk.injEq, reduceCtorEq] at h
  obtain ⟨rfl, rfl, rfl⟩ := h
  exact bRRight _ _ hp.1 hp.2
def lnA (xk : UInt8) (k : Nat) : List UInt8 → Nat → List UInt8 → List UInt8
  | [], _, p => p
  | x :: rest, i, p => lnA xk k rest (i + 1) (if i ≠ k then prodL p [mulL x (invL (xk ^^^ x)), invL (xk ^^^ x)] else p)
def lnO (xs ys : List UInt8) : Nat → Nat → List UInt8 → List UInt8
  | 0, _, out => out
  | f + 1, k, out => lnO xs ys f (k + 1) (sumL [out, lnA (xs.getD k 0) k xs 0 [ys.getD k 0]])
def lineL (xs ys : List UInt8) : List UInt8 := lnO xs ys xs.length 0 []
theorem lnA_len (xk : UInt8) (k : Nat) : ∀ (xs : List UInt8) (i : Nat) (p : List UInt8), (lnA xk k xs i p).length ≤ p.length + 2 * xs.length
  | [], i, p => by simp [lnA]
  | x :: xs, i, p => by
    rw [lnA]
    refine Nat.le_trans (lnA_len xk k xs (i + 1) _) ?_
    have := prodL_len p [mulL x (invL (xk ^^^ x)), invL (xk ^^^ x)]
    simp only [List.length_cons, List.length_nil] at this ⊢
    split <;> omega
theorem sumL_two_len (a b : List UInt8) (n : Nat) (ha : a.length ≤ n) (hb : b.length ≤ n) : (sumL [a, b]).length ≤ n := by
  refine Nat.le_trans (trimL_len _) (sumA_len _ _ fun r hr => ?_)
  simp only [List.mem_cons, List.not_mem_nil, or_false] at hr
  rcases hr with h | h <;> subst h <;> assumption
def sRLine : List V → Option (Prop × V × List Blk)
  | [.sl false .u8 a, .sl false .u8 b] => some (a.length ≤ 10000 ∧ a.length ≤ b.length, .own .u8 0, [.row true .u8 (lineL a b)])
  | _ => none
theorem bRLine (a : List UInt8) (b : List UInt8) (hp0 : a.length ≤ 10000) (hp1 : a.length ≤ b.length) : bodyP ⟨CRRight, tys, G6⟩ Tryd.f37 [.o .u8] [.sl false .u8 a, .sl false .u8 b] (.own .u8 0) [.row true .u8 (lineL a b)] := by
  refine ⟨0, [(0, .k), (1, .k), (5, .o .u8), (6, .k)], fun n vs H => ∃ (k : Nat) (out : List UInt8), k ≤ a.length ∧ out.length ≤ 2 * a.length + 1 ∧ lnO a b (a.length - k) k out = lineL a b ∧ n = a.length - k ∧ vs = [.sl false .u8 a, .sl false .u8 b, .own .u8 0, .int .i64 (k : Int)] ∧ H = [.row true .u8 out], ⟨rfl, a.length, 0, [], by omega, Nat.zero_le _, rfl, by omega, rfl, rfl⟩, ?_⟩
  rintro n vs H ⟨k, out, hc1_0, hc1_1, hc1_2, rfl, rfl, rfl⟩
  refine ⟨fun h0 => ?_, fun h0 => ?_⟩
  · replace h0 : (k : Int) < (a.length : Int) := h0
    rw [show a.length - k = (a.length - (k + 1)) + 1 by omega, lnO] at hc1_2
    refine ⟨⟨by omega, by omega⟩, 0, [(0, .k), (1, .k), (5, .o .u8), (6, .k), (7, .o .u8), (8, .k)], fun n vs H => ∃ (i : Nat) (p : List UInt8), i ≤ a.length ∧ p.length ≤ 2 * i + 1 ∧ lnA (a.getD k 0) k (a.drop i) i p = lnA (a.getD k 0) k a 0 [b.getD k 0] ∧ n = a.length - i ∧ vs = [.sl false .u8 a, .sl false .u8 b, .own .u8 0, .int .i64 (k : Int), .own .u8 1, .int .i64 (i : Int)] ∧ H = [.row true .u8 out, .row true .u8 p], ⟨rfl, a.length, 0, [b.getD k 0], by omega, Nat.le_refl _, rfl, by omega, rfl, rfl⟩, ?_⟩
    rintro n vs H ⟨i, p, hc2_0, hc2_1, hc2_2, rfl, rfl, rfl⟩
    refine ⟨fun h1 => ?_, fun h1 => ?_⟩
    · replace h1 : (i : Int) < (a.length : Int) := h1
      refine ⟨fun h2 => ?_, fun h2 => ?_⟩
      · replace h2 : (i : Int) ≠ (k : Int) := h2
        refine ⟨by kernel_rfl, ⟨by omega, by omega⟩, ⟨by omega, by omega⟩, trivial, ⟨by omega, by omega⟩, trivial, ⟨by show p.length ≤ 100000; first | omega | assumption, by show ([mulL (a.getD i 0) (invL ((a.getD k 0) ^^^ (a.getD i 0))), invL ((a.getD k 0) ^^^ (a.getD i 0))] : List UInt8).length ≤ 100000; first | omega | assumption | (simp only [List.length_cons, List.length_nil, List.length_append, List.length_take, List.length_drop, List.length_set, List.length_replicate]; omega)⟩, ⟨by omega, by omega⟩, ?_⟩
        rw [drop_one a i (by omega), lnA] at hc2_2
        first
          | rw [if_pos (fun h => h2 (congrArg Int.ofNat h))] at hc2_2
          | rw [if_neg (fun h => h2 (fun e => h (by omega)))] at hc2_2
        have hpl := prodL_len p [mulL (a.getD i 0) (invL (a.getD k 0 ^^^ a.getD i 0)), invL (a.getD k 0 ^^^ a.getD i 0)]
        exact ⟨rfl, a.length - (i + 1), by omega, i + 1, _, by omega, by simp only [List.length_cons, List.length_nil] at hpl; omega, hc2_2, rfl, rfl, rfl⟩
      · replace h2 : ¬ ((i : Int) ≠ (k : Int)) := h2
        refine ⟨⟨by omega, by omega⟩, ?_⟩
        rw [drop_one a i (by omega), lnA] at hc2_2
        first
          | rw [if_pos (fun h => h2 (congrArg Int.ofNat h))] at hc2_2
          | rw [if_neg (fun h => h2 (fun e => h (by omega)))] at hc2_2
        have hpl := prodL_len p [mulL (a.getD i 0) (invL (a.getD k 0 ^^^ a.getD i 0)), invL (a.getD k 0 ^^^ a.getD i 0)]
        exact ⟨rfl, a.length - (i + 1), by omega, i + 1, _, by omega, by simp only [List.length_cons, List.length_nil] at hpl; omega, hc2_2, rfl, rfl, rfl⟩
    · replace h1 : ¬ ((i : Int) < (a.length : Int)) := h1
      refine ⟨⟨by show out.length ≤ 1000000; first | omega | assumption, by show p.length ≤ 1000000; first | omega | assumption⟩, ⟨by omega, by omega⟩, ?_⟩
      have hi : i = a.length := by omega
      rw [hi, List.drop_length, lnA] at hc2_2
      have hl := lnA_len (a.getD k 0) k a 0 [b.getD k 0]
      rw [← hc2_2] at hl
      refine ⟨rfl, a.length - (k + 1), by omega, k + 1, sumL [out, p], by omega, sumL_two_len _ _ _ hc1_1 (by simp only [List.length_cons, List.length_nil] at hl; omega), ?_, rfl, rfl, rfl⟩
      rw [hc2_2]
      exact hc1_2
  · replace h0 : ¬ ((k : Int) < (a.length : Int)) := h0
    have hk : k = a.length := by omega
    rw [hk, Nat.sub_self, lnO] at hc1_2
    rw [hc1_2]
    exact ⟨rfl, rfl, rfl, rfl⟩
def CRLine : List (Nat × Con) := (37, pureC [.v (.sl .u8), .v (.sl .u8)] sRLine) :: CRRight
theorem kRLine : Known Tryd.prog ⟨CRLine, tys, G6⟩ := kRRight.add Tryd.func37 Tryd.call37 [.o .u8] fun ds p v bs h hp => by
  unfold sRLine at h
  split at h <;> simp only [Option.some.injEq, Prod.mk.injEq, reduceCtorEq] at h
  obtain ⟨rfl, rfl, rfl⟩ := h
  exact bRLine _ _ hp.1 hp.2
end Go.Proofs.YtifaanbnijnbdaaDoor.S6

namespace Go.Proofs.YtifaanbnijnbdaaDoor.S6
open Go Go.Proofs.YtifaanbnijnbdaaDoor.Vc Go.Proofs
set_option maxRecDepth 100000
set_option linter.unusedVariables false

def sRMissed : List V → Option (Prop × V × List Blk)
  | [.sl false .u8 p, .sl false .u8 a, .sl false .u8 b] => some (p.length ≤ 1000000 ∧ a.length ≤ 100000 ∧ a.length ≤ b.length, .own (.int .i64) 0, [.row true (.int .i64) (missA p a b a.length)])
  | _ => none
theorem bRMissed (p : List UInt8) (a : List UInt8) (b : List UInt8) (hp0 : p.length ≤ 1000000) (hp1 : a.length ≤ 100000) (hp2 : a.length ≤ b.length) : bodyP ⟨CRLine, tys, G6⟩ Tryd.f22 [.o (.int .i64)] [.sl false .u8 p, .sl false .u8 a, .sl false .u8 b] (.own (.int .i64) 0) [.row true (.int .i64) (missA p a b a.length)] := by
  refine ⟨0, [(0, .k), (1, .k), (2, .k), (7, .o (.int .i64)), (8, .k)], fun n vs H => ∃ (k : Nat), k ≤ a.length ∧ n = a.length - k ∧ vs = [.sl false .u8 p, .sl false .u8 a, .sl false .u8 b, .own (.int .i64) 0, .int .i64 (k : Int)] ∧ H = [.row true (.int .i64) (missA p a b k)], ⟨rfl, a.length, 0, by omega, by omega, rfl, rfl⟩, ?_⟩
  rintro n vs H ⟨k, hc1_0, rfl, rfl, rfl⟩
  have hml := missA_len p a b k
  refine ⟨fun h0 => ?_, fun h0 => ?_⟩
  · replace h0 : (k : Int) < (a.length : Int) := h0
    refine ⟨by kernel_rfl, ⟨by omega, by omega⟩, by show p.length ≤ 1000000; first | omega | assumption, ⟨by omega, by omega⟩, fun h1 => ?_, fun h1 => ?_⟩
    · replace h1 : (horner (a.getD k 0) p) ≠ (b.getD k 0) := h1
      refine ⟨rfl, ⟨rfl, rfl⟩, by show (missA p a b k).length + ([(k : Int)] : List Int).length ≤ 1000000000; simp only [List.length_cons, List.length_nil]; omega, ⟨by omega, by omega⟩, ?_⟩
      refine ⟨rfl, a.length - (k + 1), by omega, k + 1, by omega, rfl, rfl, ?_⟩
      first
        | rw [show missA p a b (k + 1) = _ from if_pos h1]
        | rw [show missA p a b (k + 1) = _ from if_neg h1]
      rfl
    · replace h1 : ¬ ((horner (a.getD k 0) p) ≠ (b.getD k 0)) := h1
      refine ⟨⟨by omega, by omega⟩, ?_⟩
      refine ⟨rfl, a.length - (k + 1), by omega, k + 1, by omega, rfl, rfl, ?_⟩
      first
        | rw [show missA p a b (k + 1) = _ from if_pos h1]
        | rw [show missA p a b (k + 1) = _ from if_neg h1]
      rfl
  · replace h0 : ¬ ((k : Int) < (a.length : Int)) := h0
    have hk : k = a.length := by omega
    rw [hk]
    exact ⟨rfl, rfl, rfl, rfl⟩
def CRMissed : List (Nat × Con) := (22, pureC [.v (.sl .u8), .v (.sl .u8), .v (.sl .u8)] sRMissed) :: CRLine
theorem kRMissed : Known Tryd.prog ⟨CRMissed, tys, G6⟩ := kRLine.add Tryd.func22 Tryd.call22 [.o (.int .i64)] fun ds p v bs h hp => by
  unfold sRMissed at h
  split at h <;> simp only [Option.some.injEq, Prod.mk.injEq, reduceCtorEq] at h
  obtain ⟨rfl, rfl, rfl⟩ := h
  exact bRMissed _ _ _ hp.1 hp.2.1 hp.2.2
def ripL (a b : List UInt8) : List UInt8 × Int := if rightP a b then (lineL a b, 0) else ([], 1)
def sRIp : List V → Option (Prop × V × List Blk)
  | [.sl false .u8 a, .sl false .u8 b] => some (a.length ≤ 10000 ∧ b.length ≤ 10000, .agg [.own .u8 0, .int .i64 ((ripL a b).2)], [.row true .u8 ((ripL a b).1)])
  | _ => none
theorem bRIp (a : List UInt8) (b : List UInt8) (hp0 : a.length ≤ 10000) (hp1 : b.length ≤ 10000) : bodyP ⟨CRMissed, tys, G6⟩ Tryd.f12 [.o .u8, .k] [.sl false .u8 a, .sl false .u8 b] (.agg [.own .u8 0, .int .i64 ((ripL a b).2)]) [.row true .u8 ((ripL a b).1)] := by
  refine ⟨⟨by show a.length ≤ 2000000; first | omega | assumption, by show b.length ≤ 2000000; first | omega | assumption⟩, fun h0 => ?_, fun h0 => ?_⟩
  · replace h0 : ¬ (rightP a b) := h0
    rw [show ripL a b = _ from if_neg h0]
    refine ⟨⟨rfl, rfl, rfl, Nat.le_of_ble_eq_true rfl⟩, ?_⟩
    exact ⟨rfl, rfl, rfl, rfl⟩
  · replace h0 : ¬ (¬ (rightP a b)) := h0
    have h1 : rightP a b := Classical.not_not.1 h0
    rw [show ripL a b = _ from if_pos h1]
    have h2 := h1.2
    refine ⟨⟨by show a.length ≤ 10000; first | omega | assumption, by show a.length ≤ b.length; first | omega | assumption⟩, ⟨rfl, rfl, rfl, Nat.le_of_ble_eq_true rfl⟩, ?_⟩
    exact ⟨rfl, rfl, rfl, rfl⟩
def CRIp : List (Nat × Con) := (12, pureC [.v (.sl .u8), .v (.sl .u8)] sRIp) :: CRMissed
theorem kRIp : Known Tryd.prog ⟨CRIp, tys, G6⟩ := kRMissed.add Tryd.func12 Tryd.call12 [.o .u8, .k] fun ds p v bs h hp => by
  unfold sRIp at h
  split at h <;> simp only [Option.some.injEq, Prod.mk.injEq, reduceCtorEq] at h
  obtain ⟨rfl, rfl, rfl⟩ := h
  exact bRIp _ _ hp.1 hp.2
def rtpL (a b : List UInt8) (d : Int) : List UInt8 × Int :=
  if rightP a b then if d < 0 then ([], 3) else if (a.length : Int) ≤ d then ([], 3) else
    if 0 < (missA (lineL (a.take (d + 1).toNat) (b.take (d + 1).toNat)) a b a.length).length then ([], 8) else (lineL (a.take (d + 1).toNat) (b.take (d + 1).toNat), 0) else ([], 1)
theorem lnO_len (xs ys : List UInt8) : ∀ (f k : Nat) (out : List UInt8), out.length ≤ 2 * xs.length + 1 → (lnO xs ys f k out).length ≤ 2 * xs.length + 1
  | 0, k, out, h => h
  | f + 1, k, out, h => by
    rw [lnO]
    refine lnO_len xs ys f _ _ (sumL_two_len _ _ _ h ?_)
    have := lnA_len (xs.getD k 0) k xs 0 [ys.getD k 0]
    simp only [List.length_cons, List.length_nil] at this
    omega
theorem lineL_len (xs ys : List UInt8) : (lineL xs ys).length ≤ 2 * xs.length + 1 := lnO_len _ _ _ _ _ (Nat.zero_le _)
def sRTp : List V → Option (Prop × V × List Blk)
  | [.sl false .u8 a, .sl false .u8 b, .int .i64 d] => some (a.length ≤ 10000 ∧ b.length ≤ 10000, .agg [.own .u8 0, .int .i64 ((rtpL a b d).2)], [.row true .u8 ((rtpL a b d).1)])
  | _ => none
theorem bRTp (a : List UInt8) (b : List UInt8) (d : Int) (hp0 : a.length ≤ 10000) (hp1 : b.length ≤ 10000) : bodyP ⟨CRIp, tys, G6⟩ Tryd.f14 [.o .u8, .k] [.sl false .u8 a, .sl false .u8 b, .int .i64 d] (.agg [.own .u8 0, .int .i64 ((rtpL a b d).2)]) [.row true .u8 ((rtpL a b d).1)] := by
  refine ⟨⟨by show a.length ≤ 2000000; first | omega | assumption, by show b.length ≤ 2000000; first | omega | assumption⟩, fun h0 => ?_, fun h0 => ?_⟩
  · replace h0 : ¬ (rightP a b) := h0
    rw [show rtpL a b d = _ from if_neg h0]
    refine ⟨⟨rfl, rfl, rfl, Nat.le_of_ble_eq_true rfl⟩, ?_⟩
    exact ⟨rfl, rfl, rfl, rfl⟩
  · replace h0 : ¬ (¬ (rightP a b)) := h0
    have hr : rightP a b := Classical.not_not.1 h0
    rw [show rtpL a b d = _ from if_pos hr]
    have hr2 := hr.2
    have hl := lineL_len (a.take (d + 1).toNat) (b.take (d + 1).toNat)
    rw [List.length_take] at hl
    refine ⟨fun h1 => ?_, fun h1 => ?_⟩
    · replace h1 : ¬ (d < 0) := h1
      rw [if_neg h1]
      refine ⟨fun h2 => ?_, fun h2 => ?_⟩
      · replace h2 : (a.length : Int) ≤ d := h2
        rw [if_pos h2]
        refine ⟨⟨rfl, rfl, rfl, Nat.le_of_ble_eq_true rfl⟩, ?_⟩
        exact ⟨rfl, rfl, rfl, rfl⟩
      · replace h2 : ¬ ((a.length : Int) ≤ d) := h2
        rw [if_neg h2]
        refine ⟨by kernel_rfl, ⟨by omega, by omega⟩, ⟨by omega, by omega⟩, ⟨by omega, by omega⟩, ⟨by omega, by omega⟩, ⟨by show (a.take ((d + 1).toNat)).length ≤ 10000; first | omega | assumption | (simp only [List.length_cons, List.length_nil, List.length_append, List.length_take, List.length_drop, List.length_set, List.length_replicate]; omega), by show (a.take ((d + 1).toNat)).length ≤ (b.take ((d + 1).toNat)).length; first | omega | assumption | (simp only [List.length_cons, List.length_nil, List.length_append, List.length_take, List.length_drop, List.length_set, List.length_replicate]; omega)⟩, ⟨by show (lineL (a.take ((d + 1).toNat)) (b.take ((d + 1).toNat))).length ≤ 1000000; first | omega | assumption | (simp only [List.length_cons, List.length_nil, List.length_append, List.length_take, List.length_drop, List.length_set, List.length_replicate]; omega), by show a.length ≤ 100000; first | omega | assumption, by show a.length ≤ b.length; first | omega | assumption⟩, fun h3 => ?_, fun h3 => ?_⟩
        · replace h3 : 0 < (((missA (lineL (a.take ((d + 1).toNat)) (b.take ((d + 1).toNat))) a b a.length).length : Nat) : Int) := h3
          rw [if_pos (by omega)]
          refine ⟨⟨rfl, rfl, rfl, Nat.le_of_ble_eq_true rfl⟩, ?_⟩
          exact ⟨rfl, rfl, rfl, rfl⟩
        · replace h3 : ¬ (0 < (((missA (lineL (a.take ((d + 1).toNat)) (b.take ((d + 1).toNat))) a b a.length).length : Nat) : Int)) := h3
          rw [if_neg (by omega)]
          refine ⟨⟨rfl, rfl, rfl, Nat.le_of_ble_eq_true rfl⟩, ?_⟩
          exact ⟨rfl, rfl, rfl, rfl⟩
    · replace h1 : d < 0 := h1
      rw [if_pos h1]
      refine ⟨⟨rfl, rfl, rfl, Nat.le_of_ble_eq_true rfl⟩, ?_⟩
      exact ⟨rfl, rfl, rfl, rfl⟩
def CRTp : List (Nat × Con) := (14, pureC [.v (.sl .u8), .v (.sl .u8), .v (.int .i64)] sRTp) :: CRIp
theorem kRTp : Known Tryd.prog ⟨CRTp, tys, G6⟩ := kRIp.add Tryd.func14 Tryd.call14 [.o .u8, .k] fun ds p v bs h hp => by
  unfold sRTp at h
  split at h <;> simp only [Option.some.injEq, Prod.mk.injEq, reduceCtorEq] at h
  obtain ⟨rfl, rfl, rfl⟩ := h
  exact bRTp _ _ _ hp.1 hp.2
theorem take_snocG {α : Type} (d : α) (p : List α) (k : Nat) (h : k < p.length) : p.take (k + 1) = p.take k ++ [p.getD k d] := by
  rw [List.take_succ_eq_append_getElem h]
  simp [List.getElem?_eq_getElem h]
def sRSame : List V → Option (Prop × V × List Blk)
  | [.sl false .u8 a, .sl false .u8 b] => some (a.length ≤ 1000000 ∧ b.length ≤ 1000000, .b (a = b), [])
  | _ => none
theorem bRSame (a : List UInt8) (b : List UInt8) (hp0 : a.length ≤ 1000000) (hp1 : b.length ≤ 1000000) : bodyP ⟨CRTp, tys, G6⟩ Tryd.f15 [.k] [.sl false .u8 a, .sl false .u8 b] (.b (a = b)) [] := by
  refine ⟨fun h0 => ?_, fun h0 => ?_⟩
  · replace h0 : (a.length : Int) ≠ (b.length : Int) := h0
    refine ⟨rfl, rfl, congrArg V.b (propext ⟨fun h => absurd h (by decide), fun h => ?_⟩), rfl⟩
    rw [h] at h0
    exact absurd rfl h0
  · replace h0 : ¬ ((a.length : Int) ≠ (b.length : Int)) := h0
    refine ⟨0, [(0, .k), (1, .k), (5, .k)], fun n vs H => ∃ (k : Nat), k ≤ a.length ∧ a.length = b.length ∧ a.take k = b.take k ∧ n = a.length - k ∧ vs = [.sl false .u8 a, .sl false .u8 b, .int .i64 (k : Int)] ∧ H = [], ⟨rfl, a.length, 0, by omega, by omega, by simp, by omega, rfl, rfl⟩, ?_⟩
    rintro n vs H ⟨k, hc1_0, hc1_1, hc1_2, rfl, rfl, rfl⟩
    refine ⟨fun h1 => ?_, fun h1 => ?_⟩
    · replace h1 : (k : Int) < (a.length : Int) := h1
      refine ⟨by kernel_rfl, ⟨by omega, by omega⟩, ⟨by omega, by omega⟩, fun h2 => ?_, fun h2 => ?_⟩
      · replace h2 : (a.getD k 0) ≠ (b.getD k 0) := h2
        refine ⟨rfl, rfl, congrArg V.b (propext ⟨fun h => absurd h (by decide), fun h => ?_⟩), rfl⟩
        rw [h] at h2
        exact absurd rfl h2
      · replace h2 : ¬ ((a.getD k 0) ≠ (b.getD k 0)) := h2
        refine ⟨⟨by omega, by omega⟩, ?_⟩
        refine ⟨rfl, a.length - (k + 1), by omega, k + 1, by omega, hc1_1, ?_, rfl, rfl, rfl⟩
        rw [take_snocG 0 a k (by omega), take_snocG 0 b k (by omega), hc1_2, Classical.not_not.1 h2]
    · replace h1 : ¬ ((k : Int) < (a.length : Int)) := h1
      have hk : k = a.length := by omega
      rw [hk, List.take_length, hc1_1, List.take_length] at hc1_2
      exact ⟨rfl, rfl, congrArg V.b (propext ⟨fun _ => hc1_2, fun _ => rfl⟩), rfl⟩
def CRSame : List (Nat × Con) := (15, pureC [.v (.sl .u8), .v (.sl .u8)] sRSame) :: CRTp
theorem kRSame : Known Tryd.prog ⟨CRSame, tys, G6⟩ := kRTp.add Tryd.func15 Tryd.call15 [.k] fun ds p v bs h hp => by
  unfold sRSame at h
  split at h <;> simp only [Option.some.injEq, Prod.mk.injEq, reduceCtorEq] at h
  obtain ⟨rfl, rfl, rfl⟩ := h
  exact bRSame _ _ hp.1 hp.2
def sRSameI : List V → Option (Prop × V × List Blk)
  | [.sl false (.int .i64) a, .sl false (.int .i64) b] => some (a.length ≤ 1000000 ∧ b.length ≤ 1000000, .b (a = b), [])
  | _ => none
theorem bRSameI (a : List Int) (b : List Int) (hp0 : a.length ≤ 1000000) (hp1 : b.length ≤ 1000000) : bodyP ⟨CRSame, tys, G6⟩ Tryd.f18 [.k] [.sl false (.int .i64) a, .sl false (.int .i64) b] (.b (a = b)) [] := by
  refine ⟨fun h0 => ?_, fun h0 => ?_⟩
  · replace h0 : (a.length : Int) ≠ (b.length : Int) := h0
    refine ⟨rfl, rfl, congrArg V.b (propext ⟨fun h => absurd h (by decide), fun h => ?_⟩), rfl⟩
    rw [h] at h0
    exact absurd rfl h0
  · replace h0 : ¬ ((a.length : Int) ≠ (b.length : Int)) := h0
    refine ⟨0, [(0, .k), (1, .k), (5, .k)], fun n vs H => ∃ (k : Nat), k ≤ a.length ∧ a.length = b.length ∧ a.take k = b.take k ∧ n = a.length - k ∧ vs = [.sl false (.int .i64) a, .sl false (.int .i64) b, .int .i64 (k : Int)] ∧ H = [], ⟨rfl, a.length, 0, by omega, by omega, by simp, by omega, rfl, rfl⟩, ?_⟩
    rintro n vs H ⟨k, hc1_0, hc1_1, hc1_2, rfl, rfl, rfl⟩
    refine ⟨fun h1 => ?_, fun h1 => ?_⟩
    · replace h1 : (k : Int) < (a.length : Int) := h1
      refine ⟨by kernel_rfl, ⟨by omega, by omega⟩, ⟨by omega, by omega⟩, fun h2 => ?_, fun h2 => ?_⟩
      · replace h2 : (a.getD k 0) ≠ (b.getD k 0) := h2
        refine ⟨rfl, rfl, congrArg V.b (propext ⟨fun h => absurd h (by decide), fun h => ?_⟩), rfl⟩
        rw [h] at h2
        exact absurd rfl h2
      · replace h2 : ¬ ((a.getD k 0) ≠ (b.getD k 0)) := h2
        refine ⟨⟨by omega, by omega⟩, ?_⟩
        refine ⟨rfl, a.length - (k + 1), by omega, k + 1, by omega, hc1_1, ?_, rfl, rfl, rfl⟩
        rw [take_snocG 0 a k (by omega), take_snocG 0 b k (by omega), hc1_2, Classical.not_not.1 h2]
    · replace h1 : ¬ ((k : Int) < (a.length : Int)) := h1
      have hk : k = a.length := by omega
      rw [hk, List.take_length, hc1_1, List.take_length] at hc1_2
      exact ⟨rfl, rfl, congrArg V.b (propext ⟨fun _ => hc1_2, fun _ => rfl⟩), rfl⟩
def CRSameI : List (Nat × Con) := (18, pureC [.v (.sl (.int .i64)), .v (.sl (.int .i64))] sRSameI) :: CRSame
theorem kRSameI : Known Tryd.prog ⟨CRSameI, tys, G6⟩ := kRSame.add Tryd.func18 Tryd.call18 [.k] fun ds p v bs h hp => by
  unfold sRSameI at h
  split at h <;> simp only [Option.some.injEq, Prod.mk.injEq, reduceCtorEq] at h
  obtain ⟨rfl, rfl, rfl⟩ := h
  exact bRSameI _ _ hp.1 hp.2
def sValues : List V → Option (Prop × V × List Blk)
  | [.sl false .u8 p, .sl false .u8 a] => some (p.length ≤ 1000000 ∧ a.length ≤ 1000000, .own .u8 0, [.row true .u8 (a.map (fun x => horner x p))])
  | _ => none
theorem bValues (p : List UInt8) (a : List UInt8) (hp0 : p.length ≤ 1000000) (hp1 : a.length ≤ 1000000) : bodyP ⟨CRSameI, tys, G6⟩ Tryd.f20 [.o .u8] [.sl false .u8 p, .sl false .u8 a] (.own .u8 0) [.row true .u8 (a.map (fun x => horner x p))] := by
  refine ⟨0, [(0, .k), (1, .k), (5, .o .u8), (6, .k)], fun n vs H => ∃ (k : Nat), k ≤ a.length ∧ n = a.length - k ∧ vs = [.sl false .u8 p, .sl false .u8 a, .own .u8 0, .int .i64 (k : Int)] ∧ H = [.row true .u8 ((a.take k).map (fun x => horner x p))], ⟨rfl, a.length, 0, by omega, by omega, rfl, rfl⟩, ?_⟩
  rintro n vs H ⟨k, hc1_0, rfl, rfl, rfl⟩
  have hml : ((a.take k).map (fun x => horner x p)).length = k := by rw [List.length_map, List.length_take]; omega
  refine ⟨fun h0 => ?_, fun h0 => ?_⟩
  · replace h0 : (k : Int) < (a.length : Int) := h0
    refine ⟨⟨by omega, by omega⟩, by show p.length ≤ 1000000; first | omega | assumption, ⟨rfl, rfl⟩, by show ((a.take k).map (fun x => horner x p)).length + ([horner (a.getD k 0) p] : List UInt8).length ≤ 1000000000; simp only [List.length_cons, List.length_nil]; omega, ⟨by omega, by omega⟩, ?_⟩
    refine ⟨rfl, a.length - (k + 1), by omega, k + 1, by omega, rfl, rfl, ?_⟩
    rw [take_snoc a k (by omega), List.map_append]
    rfl
  · replace h0 : ¬ ((k : Int) < (a.length : Int)) := h0
    have hk : k = a.length := by omega
    rw [hk, List.take_length]
    exact ⟨rfl, rfl, rfl, rfl⟩
def CValues : List (Nat × Con) := (20, pureC [.v (.sl .u8), .v (.sl .u8)] sValues) :: CRSameI
theorem kValues : Known Tryd.prog ⟨CValues, tys, G6⟩ := kRSameI.add Tryd.func20 Tryd.call20 [.o .u8] fun ds p v bs h hp => by
  unfold sValues at h
  split at h <;> simp only [Option.some.injEq, Prod.mk.injEq, reduceCtorEq] at h
  obtain ⟨rfl, rfl, rfl⟩ := h
  exact bValues _ _ hp.1 hp.2
end Go.Proofs.YtifaanbnijnbdaaDoor.S6

namespace Go.Proofs.YtifaanbnijnbdaaDoor.S6
open Go Go.Proofs.YtifaanbnijnbdaaDoor.Vc Go.Proofs
set_option maxRecDepth 100000
set_option linter.unusedVariables false

def pickL (xs : List UInt8) (set : Nat) : Nat → List UInt8
  | 0 => []
  | k + 1 => if set / 2 ^ k % 2 = 1 then pickL xs set k ++ [xs.getD k 0] else pickL xs set k
theorem pickL_len (xs : List UInt8) (set : Nat) : ∀ k, (pickL xs set k).length ≤ k
  | 0 => Nat.le_refl _
  | k + 1 => by
    have := pickL_len xs set k
    unfold pickL
    split
    · rw [List.length_append, List.length_singleton]; omega
    · omega
theorem pickL_same (xs ys : List UInt8) (set : Nat) : ∀ k, (pickL xs set k).length = (pickL ys set k).length
  | 0 => rfl
  | k + 1 => by
    have := pickL_same xs ys set k
    unfold pickL
    split
    · rw [List.length_append, List.length_append, this]; rfl
    · exact this
def rdOk (a b : List UInt8) (d w : Int) (set : Nat) : Prop := ((pickL a set a.length).length : Int) = d + 1 ∧ ((missA (lineL (pickL a set a.length) (pickL b set a.length)) a b a.length).length : Int) ≤ w
instance (a b : List UInt8) (d w : Int) (set : Nat) : Decidable (rdOk a b d w set) := inferInstanceAs (Decidable (_ ∧ _))
def rdF (a b : List UInt8) (d w : Int) : Nat → Nat → Option Nat
  | 0, _ => none
  | f + 1, set => if rdOk a b d w set then some set else rdF a b d w f (set + 1)
def rdEnd (a b : List UInt8) : Option Nat → List UInt8 × List Int × Int
  | some set => (lineL (pickL a set a.length) (pickL b set a.length), missA (lineL (pickL a set a.length) (pickL b set a.length)) a b a.length, 0)
  | none => ([], [], 17)
def rdecL (a b : List UInt8) (d w : Int) : List UInt8 × List Int × Int :=
  if rightP a b then
    if d < 0 ∨ w < 0 ∨ (a.length : Int) ≤ d ∨ (a.length : Int) < w ∨ (a.length : Int) < d + 1 + 2 * w then ([], [], 3)
    else rdEnd a b (rdF a b d w (2 ^ a.length) 0)
  else ([], [], 1)
theorem bit_nat (s k : Nat) : (((((s : Int) / 2 ^ k).toNat &&& 1 : Nat) : Int) = 1) ↔ s / 2 ^ k % 2 = 1 := by
  have e : (s : Int) / 2 ^ k = ((s / 2 ^ k : Nat) : Int) := by rw [Int.natCast_ediv, Int.natCast_pow]; rfl
  rw [e, Int.toNat_natCast, Nat.and_one_is_mod]
  omega
def sRDec : List V → Option (Prop × V × List Blk)
  | [.sl false .u8 a, .sl false .u8 b, .int .i64 d, .int .i64 w] => some (a.length ≤ 12 ∧ b.length ≤ 12, .agg [.own .u8 0, .own (.int .i64) 1, .int .i64 ((rdecL a b d w).2.2)], [.row true .u8 ((rdecL a b d w).1), .row true (.int .i64) ((rdecL a b d w).2.1)])
  | _ => none
theorem bRDec (a : List UInt8) (b : List UInt8) (d : Int) (w : Int) (hp0 : a.length ≤ 12) (hp1 : b.length ≤ 12) : bodyP ⟨CValues, tys, G6⟩ Tryd.f17 [.o .u8, .o (.int .i64), .k] [.sl false .u8 a, .sl false .u8 b, .int .i64 d, .int .i64 w] (.agg [.own .u8 0, .own (.int .i64) 1, .int .i64 ((rdecL a b d w).2.2)]) [.row true .u8 ((rdecL a b d w).1), .row true (.int .i64) ((rdecL a b d w).2.1)] := by
  refine ⟨⟨by show a.length ≤ 2000000; first | omega | assumption, by show b.length ≤ 2000000; first | omega | assumption⟩, fun h0 => ?_, fun h0 => ?_⟩
  · replace h0 : ¬ (rightP a b) := h0
    rw [show rdecL a b d w = _ from if_neg h0]
    refine ⟨⟨rfl, rfl, rfl, Nat.le_of_ble_eq_true rfl⟩, ?_⟩
    exact ⟨rfl, rfl, rfl, rfl⟩
  · replace h0 : ¬ (¬ (rightP a b)) := h0
    have hr : rightP a b := Classical.not_not.1 h0
    have hr2 := hr.2
    have bad : ∀ (hx : d < 0 ∨ w < 0 ∨ (a.length : Int) ≤ d ∨ (a.length : Int) < w ∨ (a.length : Int) < d + 1 + 2 * w), rdecL a b d w = ([], [], 3) := fun hx => by unfold rdecL; rw [if_pos hr, if_pos hx]
    refine ⟨fun h1 => ?_, fun h1 => ?_⟩
    · replace h1 : ¬ (d < 0) := h1
      refine ⟨fun h2 => ?_, fun h2 => ?_⟩
      · replace h2 : ¬ (w < 0) := h2
        refine ⟨fun h3 => ?_, fun h3 => ?_⟩
        · replace h3 : ¬ ((a.length : Int) ≤ d) := h3
          refine ⟨fun h4 => ?_, fun h4 => ?_⟩
          · replace h4 : ¬ ((a.length : Int) < w) := h4
            refine ⟨⟨by omega, by omega⟩, ⟨by omega, by omega⟩, ⟨by omega, by omega⟩, fun h5 => ?_, fun h5 => ?_⟩
            · replace h5 : (a.length : Int) < ((d + 1) + (2 * w)) := h5
              rw [bad (.inr (.inr (.inr (.inr h5))))]
              refine ⟨⟨rfl, rfl, rfl, Nat.le_of_ble_eq_true rfl⟩, ?_⟩
              exact ⟨rfl, rfl, rfl, rfl⟩
            · replace h5 : ¬ ((a.length : Int) < ((d + 1) + (2 * w))) := h5
              obtain ⟨R, hR⟩ : ∃ R, R = rdF a b d w (2 ^ a.length) 0 := ⟨_, rfl⟩
              have hx : ¬ (d < 0 ∨ w < 0 ∨ (a.length : Int) ≤ d ∨ (a.length : Int) < w ∨ (a.length : Int) < d + 1 + 2 * w) := by
                rintro (h | h | h | h | h)
                · exact h1 h
                · exact h2 h
                · exact h3 h
                · exact h4 h
                · exact h5 h
              have hm : rdecL a b d w = rdEnd a b R := by rw [hR]; unfold rdecL; rw [if_pos hr, if_neg hx]
              have hpow : 2 ^ a.length ≤ 2 ^ 12 := Nat.pow_le_pow_right (by decide) hp0
              have hpowI : ((2 : Int) ^ a.length) = ((2 ^ a.length : Nat) : Int) := by rw [Int.natCast_pow]; rfl
              refine ⟨1, [(0, .k), (1, .k), (2, .k), (3, .k), (8, .k), (10, .k), (11, .k)], fun n vs H => ∃ (set : Nat), set ≤ 2 ^ a.length ∧ rdF a b d w (2 ^ a.length - set) set = R ∧ n = 2 ^ a.length - set ∧ vs = [.sl false .u8 a, .sl false .u8 b, .int .i64 d, .int .i64 w, .ptr 0 1 0 0, .int .i64 (a.length : Int), .int .i64 (set : Int)] ∧ H = [.cells [.nils, .nils, .int .i64 0]], ⟨rfl, 2 ^ a.length, 0, Nat.zero_le _, hR.symm, (Nat.sub_zero _).symm, rfl, rfl⟩, ?_⟩
              rintro n vs H ⟨set, hc1_0, hc1_1, rfl, rfl, rfl⟩
              refine ⟨⟨by omega, by omega⟩, ⟨by show (-9223372036854775808 : Int) ≤ 1 * 2 ^ a.length; rw [hpowI]; omega, by show (1 : Int) * 2 ^ a.length ≤ 9223372036854775807; rw [hpowI]; omega⟩, fun h6 => ?_, fun h6 => ?_⟩
              · replace h6 : (set : Int) < (1 * 2 ^ a.length) := h6
                rw [hpowI] at h6
                rw [show 2 ^ a.length - set = (2 ^ a.length - (set + 1)) + 1 by omega, rdF] at hc1_1
                refine ⟨1, [(0, .k), (1, .k), (2, .k), (3, .k), (8, .k), (10, .k), (11, .k), (12, .o .u8), (13, .o .u8), (14, .k)], fun n vs H => ∃ (k : Nat), k ≤ a.length ∧ n = a.length - k ∧ vs = [.sl false .u8 a, .sl false .u8 b, .int .i64 d, .int .i64 w, .ptr 0 1 0 0, .int .i64 (a.length : Int), .int .i64 (set : Int), .own .u8 1, .own .u8 2, .int .i64 (k : Int)] ∧ H = [.cells [.nils, .nils, .int .i64 0], .row true .u8 (pickL a set k), .row true .u8 (pickL b set k)], ⟨rfl, a.length, 0, by omega, by omega, rfl, rfl⟩, ?_⟩
                rintro n vs H ⟨k, hc2_0, rfl, rfl, rfl⟩
                have hq1 := pickL_len a set k
                have hq2 := pickL_len b set k
                refine ⟨fun h7 => ?_, fun h7 => ?_⟩
                · replace h7 : (k : Int) < (a.length : Int) := h7
                  refine ⟨⟨by omega, by omega⟩, ⟨Int.ediv_nonneg (by omega) (Int.le_of_lt (Int.pow_pos (by decide))), by omega⟩, fun h8 => ?_, fun h8 => ?_⟩
                  · replace h8 : ((((set : Int) / 2 ^ k).toNat &&& 1 : Nat) : Int) = 1 := h8
                    refine ⟨⟨by omega, by omega⟩, ⟨rfl, rfl⟩, by show (pickL a set k).length + ([a.getD k 0] : List UInt8).length ≤ 1000000000; simp only [List.length_cons, List.length_nil]; omega, ⟨by omega, by omega⟩, ⟨rfl, rfl⟩, by show (pickL b set k).length + ([b.getD k 0] : List UInt8).length ≤ 1000000000; simp only [List.length_cons, List.length_nil]; omega, ⟨by omega, by omega⟩, ?_⟩
                    refine ⟨rfl, a.length - (k + 1), by omega, k + 1, by omega, rfl, rfl, ?_⟩
                    first
                      | rw [show pickL a set (k + 1) = _ from if_pos ((bit_nat set k).1 h8), show pickL b set (k + 1) = _ from if_pos ((bit_nat set k).1 h8)]
                      | rw [show pickL a set (k + 1) = _ from if_neg (fun h => h8 ((bit_nat set k).2 h)), show pickL b set (k + 1) = _ from if_neg (fun h => h8 ((bit_nat set k).2 h))]
                    rfl
                  · replace h8 : ¬ (((((set : Int) / 2 ^ k).toNat &&& 1 : Nat) : Int) = 1) := h8
                    refine ⟨⟨by omega, by omega⟩, ?_⟩
                    refine ⟨rfl, a.length - (k + 1), by omega, k + 1, by omega, rfl, rfl, ?_⟩
                    first
                      | rw [show pickL a set (k + 1) = _ from if_pos ((bit_nat set k).1 h8), show pickL b set (k + 1) = _ from if_pos ((bit_nat set k).1 h8)]
                      | rw [show pickL a set (k + 1) = _ from if_neg (fun h => h8 ((bit_nat set k).2 h)), show pickL b set (k + 1) = _ from if_neg (fun h => h8 ((bit_nat set k).2 h))]
                    rfl
                · replace h7 : ¬ ((k : Int) < (a.length : Int)) := h7
                  have hk : k = a.length := by omega
                  have hpl := pickL_len a set k
                  have hps := pickL_same a b set k
                  have hll := lineL_len (pickL a set k) (pickL b set k)
                  refine ⟨⟨by omega, by omega⟩, fun h9 => ?_, fun h9 => ?_⟩
                  · replace h9 : (((pickL a set k).length : Nat) : Int) ≠ (d + 1) := h9
                    rw [hk] at h9
                    rw [if_neg (fun h => h9 h.1)] at hc1_1
                    refine ⟨⟨by omega, by omega⟩, ?_⟩
                    exact ⟨rfl, 2 ^ a.length - (set + 1), by omega, set + 1, by omega, hc1_1, rfl, rfl, rfl⟩
                  · replace h9 : ¬ ((((pickL a set k).length : Nat) : Int) ≠ (d + 1)) := h9
                    have h9 := Classical.not_not.1 h9
                    rw [hk] at h9
                    refine ⟨⟨by show (pickL a set k).length ≤ 10000; first | omega | assumption, by show (pickL a set k).length ≤ (pickL b set k).length; first | omega | assumption⟩, ⟨by show (lineL (pickL a set k) (pickL b set k)).length ≤ 1000000; first | omega | assumption, by show a.length ≤ 100000; first | omega | assumption, by show a.length ≤ b.length; first | omega | assumption⟩, fun h10 => ?_, fun h10 => ?_⟩
                    · replace h10 : (((missA (lineL (pickL a set k) (pickL b set k)) a b a.length).length : Nat) : Int) ≤ w := h10
                      rw [hk] at h10
                      rw [if_pos (show rdOk a b d w set from ⟨h9, h10⟩)] at hc1_1
                      refine ⟨⟨rfl, rfl, rfl, Nat.le_of_ble_eq_true rfl⟩, ?_⟩
                      rw [hm, ← hc1_1, hk]
                      exact ⟨rfl, rfl, rfl, rfl⟩
                    · replace h10 : ¬ ((((missA (lineL (pickL a set k) (pickL b set k)) a b a.length).length : Nat) : Int) ≤ w) := h10
                      rw [hk] at h10
                      rw [if_neg (fun h => h10 h.2)] at hc1_1
                      refine ⟨⟨by omega, by omega⟩, ?_⟩
                      exact ⟨rfl, 2 ^ a.length - (set + 1), by omega, set + 1, by omega, hc1_1, rfl, rfl, rfl⟩
              · replace h6 : ¬ ((set : Int) < (1 * 2 ^ a.length)) := h6
                rw [hpowI] at h6
                have hs : set = 2 ^ a.length := by omega
                rw [hs, Nat.sub_self, rdF] at hc1_1
                rw [hm, ← hc1_1]
                refine ⟨⟨rfl, rfl, rfl, Nat.le_of_ble_eq_true rfl⟩, ?_⟩
                exact ⟨rfl, rfl, rfl, rfl⟩
          · replace h4 : (a.length : Int) < w := h4
            rw [bad (.inr (.inr (.inr (.inl h4))))]
            refine ⟨⟨rfl, rfl, rfl, Nat.le_of_ble_eq_true rfl⟩, ?_⟩
            exact ⟨rfl, rfl, rfl, rfl⟩
        · replace h3 : (a.length : Int) ≤ d := h3
          rw [bad (.inr (.inr (.inl h3)))]
          refine ⟨⟨rfl, rfl, rfl, Nat.le_of_ble_eq_true rfl⟩, ?_⟩
          exact ⟨rfl, rfl, rfl, rfl⟩
      · replace h2 : w < 0 := h2
        rw [bad (.inr (.inl h2))]
        refine ⟨⟨rfl, rfl, rfl, Nat.le_of_ble_eq_true rfl⟩, ?_⟩
        exact ⟨rfl, rfl, rfl, rfl⟩
    · replace h1 : d < 0 := h1
      rw [bad (.inl h1)]
      refine ⟨⟨rfl, rfl, rfl, Nat.le_of_ble_eq_true rfl⟩, ?_⟩
      exact ⟨rfl, rfl, rfl, rfl⟩
def CRDec : List (Nat × Con) := (17, pureC [.v (.sl .u8), .v (.sl .u8), .v (.int .i64), .v (.int .i64)] sRDec) :: CValues
theorem kRDec : Known Tryd.prog ⟨CRDec, tys, G6⟩ := kValues.add Tryd.func17 Tryd.call17 [.o .u8, .o (.int .i64), .k] fun ds p v bs h hp => by
  unfold sRDec at h
  split at h <;> simp only [Option.some.injEq, Prod.mk.injEq, reduceCtorEq] at h
  obtain ⟨rfl, rfl, rfl⟩ := h
  exact bRDec _ _ _ _ hp.1 hp.2
end Go.Proofs.YtifaanbnijnbdaaDoor.S6

namespace Go.Proofs.YtifaanbnijnbdaaDoor.S6
open Go Go.Proofs.YtifaanbnijnbdaaDoor.Vc Go.Proofs
set_option maxRecDepth 100000

/-! ### The specification's interpolation -/
theorem lin2_val (z x c : UInt8) : horner z [mulL x c, c] = mulL (z ^^^ x) c := by
  show mulL (mulL 0 z ^^^ c) z ^^^ mulL x c = _
  rw [zero_mul', UInt8.zero_xor, mul_comm' c z, mulL_add]
theorem lnA_keep (z xk : UInt8) (k : Nat) (hz : z = xk) : ∀ (xs : List UInt8) (i : Nat) (p : List UInt8), (∀ m, m < xs.length → i + m ≠ k → xs.getD m 0 ≠ xk) → horner z (lnA xk k xs i p) = horner z p
  | [], i, p, _ => rfl
  | x :: xs, i, p, h => by
    rw [lnA, lnA_keep z xk k hz xs (i + 1) _ fun m hm hne => h (m + 1) (by simpa using hm) (by omega)]
    by_cases hi : i ≠ k
    · rw [if_pos hi, horner_prod, lin2_val, hz]
      have hx : x ≠ xk := h 0 (by simp) (by omega)
      rw [mul_inv' _ (fun e => hx (xor_zero_iff.1 e).symm), mul_one']
    · rw [if_neg hi]
theorem lnA_dies (z xk : UInt8) (k : Nat) : ∀ (xs : List UInt8) (i : Nat) (p : List UInt8), (horner z p = 0 → horner z (lnA xk k xs i p) = 0) ∧ ∀ m, m < xs.length → i + m ≠ k → xs.getD m 0 = z → horner z (lnA xk k xs i p) = 0
  | [], i, p => ⟨fun h => h, fun m hm => by simp at hm⟩
  | x :: xs, i, p => by
    rw [lnA]
    obtain ⟨h1, h2⟩ := lnA_dies z xk k xs (i + 1) (if i ≠ k then prodL p [mulL x (invL (xk ^^^ x)), invL (xk ^^^ x)] else p)
    refine ⟨fun h => h1 ?_, fun m hm hne he => ?_⟩
    · split
      · rw [horner_prod, h, zero_mul']
      · exact h
    · cases m with
      | zero =>
        have he : x = z := he
        refine h1 ?_
        rw [if_pos (by omega), horner_prod, lin2_val, he, UInt8.xor_self, zero_mul', mul_zero']
      | succ m => exact h2 m (by simpa using hm) (by omega) he
theorem lnA_sz (xk : UInt8) (k : Nat) : ∀ (xs : List UInt8) (i : Nat) (p : List UInt8), sz (lnA xk k xs i p) ≤ sz p + xs.length ∧ (i ≤ k → k < i + xs.length → sz (lnA xk k xs i p) + 1 ≤ sz p + xs.length)
  | [], i, p => ⟨Nat.le_refl _, fun h1 h2 => by simp at h2; omega⟩
  | x :: xs, i, p => by
    rw [lnA]
    obtain ⟨h1, h2⟩ := lnA_sz xk k xs (i + 1) (if i ≠ k then prodL p [mulL x (invL (xk ^^^ x)), invL (xk ^^^ x)] else p)
    have h3 := sz_prod_le p [mulL x (invL (xk ^^^ x)), invL (xk ^^^ x)]
    have h4 := sz_len [mulL x (invL (xk ^^^ x)), invL (xk ^^^ x)]
    simp only [List.length_cons, List.length_nil] at h4 ⊢
    by_cases hi : i = k
    · rw [if_neg (by omega)] at h1 h2 ⊢
      exact ⟨by omega, fun _ _ => by omega⟩
    · rw [if_pos hi] at h1 h2 ⊢
      exact ⟨by omega, fun h5 h6 => by have := h2 (by omega) (by omega); omega⟩
theorem nodup_inj (xs : List UInt8) (hn : xs.Nodup) (i j : Nat) (hi : i < xs.length) (hj : j < xs.length) (h : xs.getD i 0 = xs.getD j 0) : i = j := by
  simp only [List.getD_eq_getElem?_getD, List.getElem?_eq_getElem hi, List.getElem?_eq_getElem hj, Option.getD_some] at h
  have hp := List.pairwise_iff_getElem.1 hn
  rcases Nat.lt_trichotomy i j with g | g | g
  · exact absurd h (hp i j hi hj g)
  · exact g
  · exact absurd h.symm (hp j i hj hi g)
theorem lnO_val (xs ys : List UInt8) (hn : xs.Nodup) (j : Nat) (hj : j < xs.length) : ∀ (f k : Nat) (out : List UInt8), k + f = xs.length → horner (xs.getD j 0) (lnO xs ys f k out) = horner (xs.getD j 0) out ^^^ (if k ≤ j then ys.getD j 0 else 0)
  | 0, k, out, h => by rw [lnO, if_neg (by omega)]; simp
  | f + 1, k, out, h => by
    rw [lnO, lnO_val xs ys hn j hj f (k + 1) _ (by omega), horner_sum]
    have hne : ∀ m, m < xs.length → m ≠ k → xs.getD m 0 ≠ xs.getD k 0 := fun m hm hmk e => by
      have hk : k < xs.length := by omega
      exact hmk (nodup_inj xs hn m k hm hk e)
    by_cases hjk : j = k
    · have h1 := lnA_keep (xs.getD j 0) (xs.getD k 0) k (by rw [hjk]) xs 0 [ys.getD k 0] fun m hm hmk => hne m hm (by omega)
      rw [h1, horner_const, if_neg (by omega), if_pos (by omega), hjk]
      simp
    · have h1 := (lnA_dies (xs.getD j 0) (xs.getD k 0) k xs 0 [ys.getD k 0]).2 j hj (by omega) rfl
      rw [h1]
      by_cases hlt : k ≤ j
      · rw [if_pos (by omega), if_pos hlt]; simp
      · rw [if_neg (by omega), if_neg hlt]; simp
theorem lnO_sz (xs ys : List UInt8) : ∀ (f k : Nat) (out : List UInt8), k + f = xs.length → sz out ≤ xs.length → sz (lnO xs ys f k out) ≤ xs.length
  | 0, k, out, _, h => h
  | f + 1, k, out, hk, h => by
    rw [lnO]
    refine lnO_sz xs ys f (k + 1) _ (by omega) (sz_sum_le _ _ _ h ?_)
    have h1 := (lnA_sz (xs.getD k 0) k xs 0 [ys.getD k 0]).2 (Nat.zero_le _) (by omega)
    have h2 := sz_len [ys.getD k 0]
    simp only [List.length_cons, List.length_nil] at h2
    omega
theorem lnO_trim (xs ys : List UInt8) : ∀ (f k : Nat) (out : List UInt8), trimL out = out → trimL (lnO xs ys f k out) = lnO xs ys f k out
  | 0, k, out, h => h
  | f + 1, k, out, _ => lnO_trim xs ys f (k + 1) _ (sum_trim _ _)
theorem lineL_val (xs ys : List UInt8) (hn : xs.Nodup) (j : Nat) (hj : j < xs.length) : horner (xs.getD j 0) (lineL xs ys) = ys.getD j 0 := by
  unfold lineL
  rw [lnO_val xs ys hn j hj _ _ _ (by omega), if_pos (by omega)]
  show 0 ^^^ _ = _
  simp
theorem lineL_sz (xs ys : List UInt8) : sz (lineL xs ys) ≤ xs.length := lnO_sz xs ys _ _ _ (by omega) (Nat.zero_le _)
theorem lineL_trim (xs ys : List UInt8) : trimL (lineL xs ys) = lineL xs ys := lnO_trim xs ys _ _ _ rfl
theorem thr_line (xs ys : List UInt8) (h : rightP xs ys) : thrL xs ys = lineL xs ys := by
  rw [← lineL_trim]
  exact thrL_unique xs ys _ h (lineL_sz xs ys) fun k hk => lineL_val xs ys h.1 k hk
theorem ip_same (a b : List UInt8) : ipL a b = ripL a b := by
  unfold ipL ripL
  split
  · rw [thr_line a b (by assumption)]
  · rfl
theorem missA_nil (p xs ys : List UInt8) : ∀ n, (missA p xs ys n).length = 0 ↔ ∀ k, k < n → horner (xs.getD k 0) p = ys.getD k 0
  | 0 => ⟨fun _ k h => by omega, fun _ => rfl⟩
  | n + 1 => by
    have ih := missA_nil p xs ys n
    unfold missA
    by_cases h : horner (xs.getD n 0) p ≠ ys.getD n 0
    · rw [if_pos h]
      refine ⟨fun h1 => ?_, fun h1 => absurd (h1 n (by omega)) h⟩
      rw [List.length_append] at h1
      simp at h1
    · rw [if_neg h]
      rw [ih]
      have h := Classical.not_not.1 h
      refine ⟨fun h1 k hk => ?_, fun h1 k hk => h1 k (by omega)⟩
      by_cases e : k = n
      · rw [e]; exact h
      · exact h1 k (by omega)
theorem getD_take (l : List UInt8) (n k : Nat) (h : k < n) : (l.take n).getD k 0 = l.getD k 0 := by
  simp [List.getD_eq_getElem?_getD, List.getElem?_take, h]
theorem right_take (a b : List UInt8) (n : Nat) (h : rightP a b) : rightP (a.take n) (b.take n) :=
  ⟨h.1.sublist (List.take_sublist _ _), by rw [List.length_take, List.length_take, h.2]⟩
theorem tp_same (a b : List UInt8) (d : Int) : tpL a b d = rtpL a b d := by
  unfold tpL rtpL
  split
  · rename_i hr
    split
    · rfl
    · split
      · rfl
      · rename_i h1 h2
        have hn : (d + 1).toNat ≤ a.length := by omega
        have hl : (a.take (d + 1).toNat).length = (d + 1).toNat := by rw [List.length_take]; omega
        have hls := lineL_sz (a.take (d + 1).toNat) (b.take (d + 1).toNat)
        have hlv : ∀ j, j < (d + 1).toNat → horner (a.getD j 0) (lineL (a.take (d + 1).toNat) (b.take (d + 1).toNat)) = b.getD j 0 := fun j hj => by
          have := lineL_val (a.take (d + 1).toNat) (b.take (d + 1).toNat) (right_take a b _ hr).1 j (by omega)
          rwa [getD_take _ _ _ hj, getD_take _ _ _ hj] at this
        have key : (d < degL (thrL a b)) ↔ 0 < (missA (lineL (a.take (d + 1).toNat) (b.take (d + 1).toNat)) a b a.length).length := by
          have hm := missA_nil (lineL (a.take (d + 1).toNat) (b.take (d + 1).toNat)) a b a.length
          constructor
          · intro h
            rcases Nat.eq_zero_or_pos (missA (lineL (a.take (d + 1).toNat) (b.take (d + 1).toNat)) a b a.length).length with e | e
            · have := thrL_unique a b _ hr (by omega) (hm.1 e)
              rw [this, lineL_trim, degL_sz] at h
              omega
            · exact e
          · intro h
            refine Int.not_le.1 fun hle => ?_
            have h3 : thrL a b = lineL (a.take (d + 1).toNat) (b.take (d + 1).toNat) := by
              rw [← thrL_trim, ← lineL_trim]
              refine poly_unique (a.take (d + 1).toNat) _ _ (right_take a b _ hr).1 (fun x hx => ?_) (by rw [degL_sz] at hle; omega) hls
              obtain ⟨k, hk, rfl⟩ := List.mem_iff_getElem.1 hx
              have e : (a.take (d + 1).toNat)[k] = a.getD k 0 := by
                have : k < a.length := by omega
                simp [List.getElem?_eq_getElem this]
              rw [e, thrL_val a b hr k (by omega), hlv k (by omega)]
            have := hm.2 fun k hk => by rw [← h3]; exact thrL_val a b hr k hk
            omega
        by_cases h : d < degL (thrL a b)
        · rw [if_pos h, if_pos (key.1 h)]
        · rw [if_neg h, if_neg (fun h' => h (key.2 h'))]
          have := (missA_nil (lineL (a.take (d + 1).toNat) (b.take (d + 1).toNat)) a b a.length).1 (by
            rcases Nat.eq_zero_or_pos (missA (lineL (a.take (d + 1).toNat) (b.take (d + 1).toNat)) a b a.length).length with e | e
            · exact e
            · exact absurd (key.2 e) h)
          rw [thrL_unique a b _ hr (by omega) this, lineL_trim]
  · rfl
end Go.Proofs.YtifaanbnijnbdaaDoor.S6

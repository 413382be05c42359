/- Texts of this claim: S26.Pl, S26.Pm, S26.Pi, S26.PolyL, S26.Pa, S26.A0, S26.Pj, S26.Pk, S26.P6z, S26.Lay26, S26.P6a. -/
import Derived.Test.YtakbedmeieeekaaDoorS0
import Derived.Test.YtakbedmeieeekaaDoorVc9
import Derived.Shelf.SlIterI.Sorted
import Derived.Shelf.SortM.Plain
import Derived.Shelf.SortM.SortNone
set_option linter.unusedVariables false
set_option linter.unusedSimpArgs false
namespace Go.Proofs.YtakbedmeieeekaaDoor.S26
open Go Go.Proofs.YtakbedmeieeekaaDoor.Vc Go.Proofs
set_option maxRecDepth 100000

/-! ### Polynomials by their coefficients -/
instance mulComm : Std.Commutative mulL := ⟨mul_comm'⟩
instance mulAssoc : Std.Associative mulL := ⟨mul_assoc'⟩

def co (p : List UInt8) (i : Nat) : UInt8 := p.getD i 0
theorem co_nil (i : Nat) : co [] i = 0 := rfl
theorem co_zero (c : UInt8) (p : List UInt8) : co (c :: p) 0 = c := rfl
theorem co_succ (c : UInt8) (p : List UInt8) (i : Nat) : co (c :: p) (i + 1) = co p i := rfl
theorem co_ge (p : List UInt8) (i : Nat) (h : p.length ≤ i) : co p i = 0 := by
  unfold co
  rw [List.getD_eq_getElem?_getD, List.getElem?_eq_none h]
  rfl
theorem trim_zero : ∀ (p : List UInt8), (∀ i, co p i = 0) → trimL p = []
  | [], _ => rfl
  | c :: p, h => by
    have h0 : c = 0 := h 0
    have hp : trimL p = [] := trim_zero p fun i => h (i + 1)
    unfold trimL
    rw [hp, if_pos h0]
theorem co_trim : ∀ (p : List UInt8) (i : Nat), co (trimL p) i = co p i
  | [], _ => rfl
  | c :: p, i => by
    have ih := co_trim p
    cases hp : trimL p with
    | nil =>
      unfold trimL
      rw [hp]
      have hz : ∀ j, co p j = 0 := fun j => by rw [← ih j, hp]; rfl
      by_cases hc : c = 0
      · rw [if_pos hc]
        cases i with
        | zero => rw [co_zero, hc]; rfl
        | succ i => rw [co_succ, hz i]; rfl
      · rw [if_neg hc]
        cases i with
        | zero => rfl
        | succ i => rw [co_succ, co_succ, hz i]; rfl
    | cons d q =>
      unfold trimL
      rw [hp]
      show co (c :: d :: q) i = _
      rw [← hp]
      cases i with
      | zero => rfl
      | succ i => exact ih i
theorem trim_ext : ∀ (p q : List UInt8), (∀ i, co p i = co q i) → trimL p = trimL q
  | [], q, h => (trim_zero q fun i => (h i).symm).symm
  | c :: p, [], h => trim_zero _ h
  | c :: p, d :: q, h => by
    have h0 : c = d := h 0
    have hp := trim_ext p q fun i => h (i + 1)
    unfold trimL
    rw [h0, hp]
theorem trim_idem (p : List UInt8) : trimL (trimL p) = trimL p := trim_ext _ _ (co_trim p)
theorem co_eq_of_trim {p q : List UInt8} (h : trimL p = trimL q) (i : Nat) : co p i = co q i := by rw [← co_trim p, h, co_trim]
theorem co_xor : ∀ (a b : List UInt8) (i : Nat), co (xorL a b) i = co a i ^^^ co b i
  | [], b, i => by simp [xorL, co_nil]
  | x :: a, [], i => by simp [xorL, co_nil]
  | x :: a, y :: b, 0 => rfl
  | x :: a, y :: b, i + 1 => by rw [xorL, co_succ, co_succ, co_succ, co_xor a b i]
theorem sumL_two (a b : List UInt8) : sumL [a, b] = trimL (xorL a b) := by simp [sumL, sumA, xorL]
theorem co_sum (a b : List UInt8) (i : Nat) : co (sumL [a, b]) i = co a i ^^^ co b i := by rw [sumL_two, co_trim, co_xor]

/-! ### How many coefficients -/
def sz (p : List UInt8) : Nat := (trimL p).length
theorem sz_co (p : List UInt8) (i : Nat) (h : sz p ≤ i) : co p i = 0 := by rw [← co_trim]; exact co_ge _ _ h
theorem trim_last : ∀ (p : List UInt8), trimL p ≠ [] → co p (sz p - 1) ≠ 0
  | [], h => absurd rfl h
  | c :: p, h => by
    have ih := trim_last p
    unfold sz at ih ⊢
    cases hp : trimL p with
    | nil =>
      unfold trimL at h ⊢
      rw [hp] at h ⊢
      by_cases hc : c = 0
      · rw [if_pos hc] at h; exact absurd rfl h
      · rw [if_neg hc]; exact hc
    | cons d q =>
      rw [hp] at ih
      unfold trimL
      rw [hp]
      have := ih (by simp)
      simpa [co_succ] using this
theorem sz_le {p : List UInt8} {n : Nat} (h : ∀ i, n ≤ i → co p i = 0) : sz p ≤ n := by
  by_cases hp : trimL p = []
  · unfold sz; rw [hp]; exact Nat.zero_le _
  · have h1 := trim_last p hp
    have h2 : 0 < sz p := List.length_pos_iff.2 hp
    rcases Nat.lt_or_ge n (sz p) with g | g
    · exact absurd (h _ (by omega)) h1
    · exact g
theorem sz_zero {p : List UInt8} : sz p = 0 ↔ trimL p = [] := List.length_eq_zero_iff
theorem sz_eq {p : List UInt8} {n : Nat} (h : ∀ i, n < i → co p i = 0) (hn : co p n ≠ 0) : sz p = n + 1 := by
  have h1 : sz p ≤ n + 1 := sz_le fun i hi => h i (by omega)
  rcases Nat.lt_or_ge n (sz p) with g | g
  · omega
  · exact absurd (sz_co p n g) hn
theorem degL_sz (p : List UInt8) : degL p = (sz p : Int) - 1 := rfl
theorem sz_trim (p : List UInt8) : sz (trimL p) = sz p := by unfold sz; rw [trim_idem]
theorem sz_len (p : List UInt8) : sz p ≤ p.length := trimL_len p

/-! ### Sums of products -/
def cv (f g : Nat → UInt8) : Nat → UInt8
  | 0 => mulL (f 0) (g 0)
  | n + 1 => mulL (f 0) (g (n + 1)) ^^^ cv (fun i => f (i + 1)) g n
theorem cv_addl (g : Nat → UInt8) : ∀ (n : Nat) (f f' : Nat → UInt8), cv (fun i => f i ^^^ f' i) g n = cv f g n ^^^ cv f' g n
  | 0, f, f' => mulL_add _ _ _
  | n + 1, f, f' => by
    show mulL (f 0 ^^^ f' 0) (g (n + 1)) ^^^ cv (fun i => f (i + 1) ^^^ f' (i + 1)) g n = _
    rw [mulL_add, cv_addl g n (fun i => f (i + 1)) (fun i => f' (i + 1))]
    show _ = (mulL (f 0) (g (n + 1)) ^^^ cv (fun i => f (i + 1)) g n) ^^^ (mulL (f' 0) (g (n + 1)) ^^^ cv (fun i => f' (i + 1)) g n)
    ac_rfl
theorem cv_addr (g g' : Nat → UInt8) : ∀ (n : Nat) (f : Nat → UInt8), cv f (fun i => g i ^^^ g' i) n = cv f g n ^^^ cv f g' n
  | 0, f => mulL_addr _ _ _
  | n + 1, f => by
    show mulL (f 0) (g (n + 1) ^^^ g' (n + 1)) ^^^ cv (fun i => f (i + 1)) (fun i => g i ^^^ g' i) n = _
    rw [mulL_addr, cv_addr g g' n]
    show _ = (mulL (f 0) (g (n + 1)) ^^^ cv (fun i => f (i + 1)) g n) ^^^ (mulL (f 0) (g' (n + 1)) ^^^ cv (fun i => f (i + 1)) g' n)
    ac_rfl
theorem cv_smul (c : UInt8) (g : Nat → UInt8) : ∀ (n : Nat) (f : Nat → UInt8), cv (fun i => mulL c (f i)) g n = mulL c (cv f g n)
  | 0, f => mul_assoc' _ _ _
  | n + 1, f => by
    show mulL (mulL c (f 0)) (g (n + 1)) ^^^ cv (fun i => mulL c (f (i + 1))) g n = _
    rw [cv_smul c g n (fun i => f (i + 1)), mul_assoc', ← mulL_addr]
    rfl
theorem cv_succ (f g : Nat → UInt8) (n : Nat) : cv f g (n + 1) = mulL (f 0) (g (n + 1)) ^^^ cv (fun i => f (i + 1)) g n := rfl
theorem cv_succ' : ∀ (n : Nat) (f g : Nat → UInt8), cv f g (n + 1) = mulL (g 0) (f (n + 1)) ^^^ cv f (fun i => g (i + 1)) n
  | 0, f, g => by
    show mulL (f 0) (g 1) ^^^ mulL (f 1) (g 0) = mulL (g 0) (f 1) ^^^ mulL (f 0) (g 1)
    rw [mul_comm' (g 0)]
    ac_rfl
  | n + 1, f, g => by
    rw [cv_succ f g, cv_succ' n (fun i => f (i + 1)) g, cv_succ f (fun i => g (i + 1))]
    ac_rfl
theorem cv_comm : ∀ (n : Nat) (f g : Nat → UInt8), cv f g n = cv g f n
  | 0, f, g => mul_comm' _ _
  | n + 1, f, g => by rw [cv_succ', cv_comm n f, cv_succ g f]
theorem cv_assoc : ∀ (n : Nat) (f g h : Nat → UInt8), cv (cv f g) h n = cv f (cv g h) n
  | 0, f, g, h => mul_assoc' _ _ _
  | n + 1, f, g, h => by
    have e : (fun i => cv f g (i + 1)) = fun i => mulL (f 0) (g (i + 1)) ^^^ cv (fun i => f (i + 1)) g i := rfl
    rw [cv_succ (cv f g) h, e, cv_addl h n (fun i => mulL (f 0) (g (i + 1))) (fun i => cv (fun i => f (i + 1)) g i), cv_smul (f 0) h n (fun i => g (i + 1)), cv_assoc n (fun i => f (i + 1)) g h, cv_succ f (cv g h), cv_succ g h, mulL_addr]
    show mulL (mulL (f 0) (g 0)) (h (n + 1)) ^^^ _ = _
    rw [mul_assoc']
    ac_rfl
theorem cv_zerol (g : Nat → UInt8) : ∀ (n : Nat) (f : Nat → UInt8), (∀ i, f i = 0) → cv f g n = 0
  | 0, f, h => by show mulL (f 0) _ = 0; rw [h, zero_mul']
  | n + 1, f, h => by rw [cv_succ, h, zero_mul', cv_zerol g n _ fun i => h (i + 1)]; rfl
theorem cv_top (k : Nat) (g : Nat → UInt8) (hg : ∀ i, k < i → g i = 0) : ∀ (m : Nat) (f : Nat → UInt8), (∀ i, m < i → f i = 0) → cv f g (m + k) = mulL (f m) (g k) ∧ ∀ n, m + k < n → cv f g n = 0
  | 0, f, hf => by
    have key : ∀ n, cv f g n = mulL (f 0) (g n) := fun n => by
      cases n with
      | zero => rfl
      | succ n => rw [cv_succ, cv_zerol g n _ fun i => hf (i + 1) (by omega)]; simp
    exact ⟨by rw [key, Nat.zero_add], fun n hn => by rw [key, hg n (by omega), mul_zero']⟩
  | m + 1, f, hf => by
    obtain ⟨h1, h2⟩ := cv_top k g hg m (fun i => f (i + 1)) fun i hi => hf (i + 1) (by omega)
    refine ⟨?_, fun n hn => ?_⟩
    · rw [show m + 1 + k = (m + k) + 1 by omega, cv_succ, hg _ (by omega), mul_zero', h1]; simp
    · cases n with
      | zero => omega
      | succ n => rw [cv_succ, hg _ (by omega), mul_zero', h2 n (by omega)]; rfl
def sh (k : Nat) (f : Nat → UInt8) (j : Nat) : UInt8 := if j < k then 0 else f (j - k)
theorem cv_delta (c : UInt8) (g : Nat → UInt8) : ∀ (k n : Nat), cv (fun j => if j = k then c else 0) g n = sh k (fun i => mulL c (g i)) n
  | 0, n => by
    have key : ∀ i, (fun j => if j = 0 then c else (0 : UInt8)) (i + 1) = 0 := fun i => if_neg (by omega)
    cases n with
    | zero => rfl
    | succ n => rw [cv_succ, cv_zerol g n _ key]; simp [sh]
  | k + 1, 0 => by
    show mulL (if 0 = k + 1 then c else 0) (g 0) = _
    rw [if_neg (by omega), zero_mul']
    simp [sh]
  | k + 1, n + 1 => by
    have e : (fun i => if i + 1 = k + 1 then c else (0 : UInt8)) = fun i => if i = k then c else 0 := by
      funext i
      by_cases h : i = k
      · rw [if_pos h, if_pos (by omega)]
      · rw [if_neg h, if_neg (by omega)]
    rw [cv_succ, if_neg (by omega), zero_mul']
    show 0 ^^^ cv (fun i => if i + 1 = k + 1 then c else 0) g n = _
    rw [e, cv_delta c g k n]
    unfold sh
    by_cases h : n < k
    · rw [if_pos h, if_pos (by omega)]; rfl
    · rw [if_neg h, if_neg (by omega), show n + 1 - (k + 1) = n - k by omega]; simp
end Go.Proofs.YtakbedmeieeekaaDoor.S26

namespace Go.Proofs.YtakbedmeieeekaaDoor.S26
open Go Go.Proofs.YtakbedmeieeekaaDoor.Vc Go.Proofs
set_option maxRecDepth 100000

/-! ### The product -/
theorem co_set (q : List UInt8) (k : Nat) (c : UInt8) (j : Nat) (hk : k < q.length) : co (q.set k c) j = if j = k then c else co q j := by
  unfold co
  simp only [List.getD_eq_getElem?_getD, List.getElem?_set]
  by_cases h : j = k
  · rw [if_pos h, if_pos h.symm, if_pos hk]; rfl
  · rw [if_neg h, if_neg (Ne.symm h)]
theorem co_addAt (acc : List UInt8) (i : Nat) (c : UInt8) (j : Nat) (hi : i < acc.length) : co (addAt acc i c) j = co acc j ^^^ (if j = i then c else 0) := by
  unfold addAt
  rw [co_set _ _ _ _ hi]
  by_cases h : j = i
  · rw [if_pos h, if_pos h, h]; rfl
  · rw [if_neg h, if_neg h]; simp
theorem co_rowA (x : UInt8) : ∀ (b acc : List UInt8) (i j : Nat), i + b.length ≤ acc.length → co (rowA x acc i b) j = co acc j ^^^ sh i (fun k => mulL x (co b k)) j
  | [], acc, i, j, h => by
    rw [rowA]
    have : sh i (fun k => mulL x (co [] k)) j = 0 := by
      unfold sh
      split
      · rfl
      · dsimp only; rw [co_nil, mul_zero']
    rw [this]; simp
  | y :: b, acc, i, j, h => by
    simp only [List.length_cons] at h
    rw [rowA, co_rowA x b _ (i + 1) j (by rw [addAt_len]; omega), co_addAt _ _ _ _ (by omega)]
    have : sh i (fun k => mulL x (co (y :: b) k)) j = (if j = i then mulL x y else 0) ^^^ sh (i + 1) (fun k => mulL x (co b k)) j := by
      unfold sh
      by_cases h1 : j < i
      · rw [if_pos h1, if_neg (by omega), if_pos (by omega)]; rfl
      · by_cases h2 : j = i
        · rw [if_neg h1, if_pos h2, if_pos (by omega), h2, Nat.sub_self]; simp [co_zero]
        · rw [if_neg h1, if_neg h2, if_neg (by omega)]
          rw [show j - i = (j - (i + 1)) + 1 by omega]
          dsimp only
          rw [co_succ]
          simp
    rw [this]
    ac_rfl
theorem co_prodA (b : List UInt8) : ∀ (a acc : List UInt8) (i j : Nat), i + a.length + b.length ≤ acc.length → co (prodA b acc i a) j = co acc j ^^^ sh i (cv (co a) (co b)) j
  | [], acc, i, j, h => by
    rw [prodA]
    have : sh i (cv (co []) (co b)) j = 0 := by
      unfold sh
      split
      · rfl
      · exact cv_zerol _ _ _ fun i => rfl
    rw [this]; simp
  | x :: a, acc, i, j, h => by
    simp only [List.length_cons] at h
    rw [prodA, co_prodA b a _ (i + 1) j (by rw [rowA_len]; omega), co_rowA x b acc i j (by omega)]
    have : sh i (cv (co (x :: a)) (co b)) j = sh i (fun k => mulL x (co b k)) j ^^^ sh (i + 1) (cv (co a) (co b)) j := by
      unfold sh
      by_cases h1 : j < i
      · rw [if_pos h1, if_pos h1, if_pos (by omega)]; rfl
      · rw [if_neg h1, if_neg h1]
        by_cases h2 : j = i
        · rw [if_pos (by omega), h2, Nat.sub_self]
          show mulL x (co b 0) = mulL x (co b 0) ^^^ 0
          simp
        · rw [if_neg (by omega), show j - i = (j - (i + 1)) + 1 by omega, cv_succ]
          rfl
    rw [this]
    ac_rfl
theorem co_zeros (n i : Nat) : co (List.replicate n 0) i = 0 := by
  unfold co
  rw [List.getD_eq_getElem?_getD, List.getElem?_replicate]
  split <;> rfl
theorem co_prod (a b : List UInt8) (j : Nat) : co (prodL a b) j = cv (co a) (co b) j := by
  unfold prodL
  rw [co_trim, co_prodA b a _ 0 j (by rw [List.length_replicate]; omega), co_zeros]
  simp [sh]
theorem prod_trim (a b : List UInt8) : trimL (prodL a b) = prodL a b := by unfold prodL; exact trim_idem _
theorem sum_trim (a b : List UInt8) : trimL (sumL [a, b]) = sumL [a, b] := by rw [sumL_two]; exact trim_idem _
theorem cv_congr {f f' g g' : Nat → UInt8} (hf : ∀ i, f i = f' i) (hg : ∀ i, g i = g' i) (n : Nat) : cv f g n = cv f' g' n := by
  rw [show f = f' from funext hf, show g = g' from funext hg]
theorem prod_comm (a b : List UInt8) : prodL a b = prodL b a := by
  exact (prod_trim _ _).symm.trans ((trim_ext _ _ fun i => by rw [co_prod, co_prod, cv_comm]).trans (prod_trim _ _))
theorem prod_assoc (a b c : List UInt8) : prodL (prodL a b) c = prodL a (prodL b c) := by
  refine (prod_trim _ _).symm.trans ((trim_ext _ _ fun i => ?_).trans (prod_trim _ _))
  rw [co_prod, co_prod, cv_congr (fun i => co_prod a b i) (fun _ => rfl), cv_congr (f := co a) (fun _ => rfl) (fun i => co_prod b c i), cv_assoc]
theorem prod_sum (a b c : List UInt8) : prodL a (sumL [b, c]) = sumL [prodL a b, prodL a c] := by
  refine (prod_trim _ _).symm.trans ((trim_ext _ _ fun i => ?_).trans (sum_trim _ _))
  rw [co_prod, co_sum, co_prod, co_prod, cv_congr (f := co a) (fun _ => rfl) (fun i => co_sum b c i), cv_addr]

/-! ### The value -/
theorem horner_trim (x : UInt8) : ∀ p : List UInt8, horner x (trimL p) = horner x p
  | [] => rfl
  | c :: p => by
    have ih := horner_trim x p
    unfold trimL
    cases hp : trimL p with
    | nil =>
      rw [hp] at ih
      show horner x (if c = 0 then [] else [c]) = mulL (horner x p) x ^^^ c
      rw [← ih]
      by_cases hc : c = 0
      · rw [if_pos hc, hc]
        show (0 : UInt8) = mulL 0 x ^^^ 0
        rw [zero_mul']; rfl
      · rw [if_neg hc]; rfl
    | cons d q =>
      rw [hp] at ih
      show mulL (horner x (d :: q)) x ^^^ c = mulL (horner x p) x ^^^ c
      rw [ih]
theorem horner_ext (x : UInt8) {p q : List UInt8} (h : ∀ i, co p i = co q i) : horner x p = horner x q := by
  rw [← horner_trim, trim_ext p q h, horner_trim]
theorem horner_xor (x : UInt8) : ∀ a b : List UInt8, horner x (xorL a b) = horner x a ^^^ horner x b
  | [], b => by simp [xorL, horner]
  | c :: a, [] => by simp [xorL, horner]
  | c :: a, d :: b => by
    show mulL (horner x (xorL a b)) x ^^^ (c ^^^ d) = (mulL (horner x a) x ^^^ c) ^^^ (mulL (horner x b) x ^^^ d)
    rw [horner_xor x a b, mulL_add]
    ac_rfl
theorem horner_sum (x : UInt8) (a b : List UInt8) : horner x (sumL [a, b]) = horner x a ^^^ horner x b := by
  rw [sumL_two, horner_trim, horner_xor]
def pm : List UInt8 → List UInt8 → List UInt8
  | [], _ => []
  | x :: a, b => xorL (b.map (mulL x)) (0 :: pm a b)
theorem co_map (c : UInt8) : ∀ (b : List UInt8) (i : Nat), co (b.map (mulL c)) i = mulL c (co b i)
  | [], i => by show (0 : UInt8) = mulL c 0; rw [mul_zero']
  | d :: b, 0 => rfl
  | d :: b, i + 1 => co_map c b i
theorem co_pm (b : List UInt8) : ∀ (a : List UInt8) (i : Nat), co (pm a b) i = cv (co a) (co b) i
  | [], i => (cv_zerol _ _ _ fun _ => rfl).symm
  | x :: a, i => by
    rw [pm, co_xor, co_map]
    cases i with
    | zero =>
      show mulL x (co b 0) ^^^ 0 = mulL x (co b 0)
      simp
    | succ i =>
      rw [co_succ, co_pm b a i]
      rfl
theorem horner_map (x c : UInt8) : ∀ b : List UInt8, horner x (b.map (mulL c)) = mulL c (horner x b)
  | [] => by show (0 : UInt8) = mulL c 0; rw [mul_zero']
  | d :: b => by
    show mulL (horner x (b.map (mulL c))) x ^^^ mulL c d = mulL c (mulL (horner x b) x ^^^ d)
    rw [horner_map x c b, mulL_addr, mul_assoc']
theorem horner_pm (x : UInt8) (b : List UInt8) : ∀ a : List UInt8, horner x (pm a b) = mulL (horner x a) (horner x b)
  | [] => by show (0 : UInt8) = mulL 0 _; rw [zero_mul']
  | c :: a => by
    rw [pm, horner_xor, horner_map]
    show _ ^^^ (mulL (horner x (pm a b)) x ^^^ 0) = mulL (mulL (horner x a) x ^^^ c) (horner x b)
    rw [horner_pm x b a, mulL_add]
    have : mulL (mulL (horner x a) (horner x b)) x = mulL (mulL (horner x a) x) (horner x b) := by ac_rfl
    rw [this]
    simp only [UInt8.xor_zero]
    ac_rfl
theorem horner_prod (x : UInt8) (a b : List UInt8) : horner x (prodL a b) = mulL (horner x a) (horner x b) := by
  rw [← horner_pm]
  exact horner_ext x fun i => by rw [co_prod, co_pm]

/-! ### The degree of a product -/
theorem sz_prod (a b : List UInt8) (ha : trimL a ≠ []) (hb : trimL b ≠ []) : sz (prodL a b) + 1 = sz a + sz b := by
  have h1 : 0 < sz a := List.length_pos_iff.2 ha
  have h2 : 0 < sz b := List.length_pos_iff.2 hb
  have ht := cv_top (sz b - 1) (co b) (fun i hi => sz_co b i (by omega)) (sz a - 1) (co a) fun i hi => sz_co a i (by omega)
  have hne : co (prodL a b) (sz a - 1 + (sz b - 1)) ≠ 0 := by
    rw [co_prod, ht.1]
    intro h
    rcases mul_eq_zero' h with h | h
    · exact trim_last a ha h
    · exact trim_last b hb h
  have := sz_eq (fun i hi => by rw [co_prod]; exact ht.2 i hi) hne
  omega
theorem prod_zero_l (a b : List UInt8) (ha : trimL a = []) : prodL a b = [] := by
  rw [← prod_trim]
  refine trim_zero _ fun i => ?_
  rw [co_prod]
  exact cv_zerol _ _ _ fun i => by rw [← co_trim, ha]; rfl
theorem prod_zero_r (a b : List UInt8) (hb : trimL b = []) : prodL a b = [] := by rw [prod_comm]; exact prod_zero_l b a hb
theorem prod_eq_nil {a b : List UInt8} (h : prodL a b = []) : trimL a = [] ∨ trimL b = [] := by
  by_cases ha : trimL a = []
  · exact .inl ha
  · by_cases hb : trimL b = []
    · exact .inr hb
    · have := sz_prod a b ha hb
      have h1 : 0 < sz a := List.length_pos_iff.2 ha
      have h2 : 0 < sz b := List.length_pos_iff.2 hb
      have h3 : sz (prodL a b) = 0 := by rw [h]; rfl
      omega
theorem sz_prod_le (a b : List UInt8) : sz (prodL a b) ≤ sz a + sz b - 1 := by
  by_cases ha : trimL a = []
  · rw [prod_zero_l a b ha]; exact Nat.zero_le _
  · by_cases hb : trimL b = []
    · rw [prod_zero_r a b hb]; exact Nat.zero_le _
    · have := sz_prod a b ha hb
      omega
theorem sz_sum_le (a b : List UInt8) (n : Nat) (ha : sz a ≤ n) (hb : sz b ≤ n) : sz (sumL [a, b]) ≤ n :=
  sz_le fun i hi => by rw [co_sum, sz_co a i (by omega), sz_co b i (by omega)]; rfl

/-! ### Division -/
theorem divA_ok (b : List UInt8) (inv : UInt8) (hb : 0 < b.length) (hinv : mulL (co b (b.length - 1)) inv = 1) : ∀ (k : Nat) (q r : List UInt8), k ≤ q.length → (0 < k → k + b.length ≤ r.length + 1) → (∀ j, j < k → co q j = 0) → (∀ j, k + b.length ≤ j + 1 → co r j = 0) →
    (∀ n, cv (co (divA b inv k q r).1) (co b) n ^^^ co (divA b inv k q r).2 n = cv (co q) (co b) n ^^^ co r n) ∧ ∀ j, b.length ≤ j + 1 → co (divA b inv k q r).2 j = 0
  | 0, q, r, _, _, _, h4 => ⟨fun n => rfl, fun j hj => h4 j (by omega)⟩
  | k + 1, q, r, h1, h2, h3, h4 => by
    have h2 := h2 (by omega)
    obtain ⟨c, hc⟩ : ∃ c, c = mulL (r.getD (k + b.length - 1) 0) inv := ⟨_, rfl⟩
    have hcr : c = mulL (co r (k + b.length - 1)) inv := hc
    rw [divA, ← hc]
    have hrow : ∀ j, co (rowA c r k b) j = co r j ^^^ sh k (fun i => mulL c (co b i)) j := fun j => co_rowA c b r k j (by omega)
    have hq : ∀ j, co (q.set k c) j = co q j ^^^ (if j = k then c else 0) := fun j => by
      rw [co_set _ _ _ _ (by omega)]
      by_cases h : j = k
      · rw [if_pos h, if_pos h, h, h3 k (by omega)]; simp
      · rw [if_neg h, if_neg h]; simp
    have ih := divA_ok b inv hb hinv k (q.set k c) (rowA c r k b) (by rw [List.length_set]; omega) (fun _ => by rw [rowA_len]; omega)
      (fun j hj => by rw [hq, h3 j (by omega), if_neg (by omega)]; rfl)
      (fun j hj => by
        rw [hrow]
        by_cases hj2 : k + b.length = j + 1
        · have hj3 : j = k + b.length - 1 := by omega
          unfold sh
          rw [if_neg (by omega), show j - k = b.length - 1 by omega, hcr, ← hj3]
          dsimp only
          rw [mul_assoc', mul_comm' inv, hinv, mul_one']
          simp
        · rw [h4 j (by omega)]
          unfold sh
          rw [if_neg (by omega)]
          dsimp only
          rw [co_ge b _ (by omega), mul_zero']
          rfl)
    refine ⟨fun n => ?_, ih.2⟩
    rw [ih.1 n, hrow n, cv_congr (f := co (q.set k c)) (fun j => hq j) (fun _ => rfl), cv_addl (co b) n (co q) (fun j => if j = k then c else 0), cv_delta]
    have : ∀ u v w : UInt8, u ^^^ v ^^^ (w ^^^ v) = u ^^^ w := fun u v w => by
      have : u ^^^ v ^^^ (w ^^^ v) = u ^^^ w ^^^ (v ^^^ v) := by ac_rfl
      rw [this]; simp
    exact this _ _ _
theorem lead_inv (b : List UInt8) (hb : trimL b ≠ []) : mulL (co (trimL b) ((trimL b).length - 1)) (invL ((trimL b).getD ((trimL b).length - 1) 0)) = 1 := by
  refine mul_inv' _ ?_
  show co (trimL b) (sz b - 1) ≠ 0
  rw [co_trim]
  exact trim_last b hb
/-- Any walk of the division, whatever room it has. -/
theorem div_any (a b r0 : List UInt8) (N M : Nat) (hb : trimL b ≠ []) (hr : ∀ i, co r0 i = co a i) (hN : N ≤ M) (h2 : 0 < N → N + sz b ≤ r0.length + 1) (h3 : sz a ≤ N + sz b - 1) :
    (∀ n, cv (co (divA (trimL b) (invL ((trimL b).getD ((trimL b).length - 1) 0)) N (List.replicate M 0) r0).1) (co b) n ^^^ co (divA (trimL b) (invL ((trimL b).getD ((trimL b).length - 1) 0)) N (List.replicate M 0) r0).2 n = co a n) ∧
    ∀ j, sz b ≤ j + 1 → co (divA (trimL b) (invL ((trimL b).getD ((trimL b).length - 1) 0)) N (List.replicate M 0) r0).2 j = 0 := by
  have h0 : 0 < (trimL b).length := List.length_pos_iff.2 hb
  have h := divA_ok (trimL b) _ h0 (lead_inv b hb) N (List.replicate M 0) r0 (by rw [List.length_replicate]; exact hN) h2 (fun j _ => co_zeros _ _) (fun j hj => by rw [hr]; exact sz_co a j (by unfold sz at *; omega))
  refine ⟨fun n => ?_, h.2⟩
  have := h.1 n
  rw [cv_zerol (co (trimL b)) n _ (fun i => co_zeros _ _), hr n, UInt8.zero_xor] at this
  rw [← this]
  congr 1
  exact cv_congr (fun _ => rfl) (fun i => (co_trim b i).symm) n
theorem div_ok (a b : List UInt8) (hb : trimL b ≠ []) : (∀ n, cv (co (divR a b).1) (co b) n ^^^ co (divR a b).2 n = co a n) ∧ ∀ j, sz b ≤ j + 1 → co (divR a b).2 j = 0 := by
  have h0 : 0 < sz b := List.length_pos_iff.2 hb
  exact div_any a b (trimL a) _ _ hb (fun i => co_trim a i) (Nat.le_refl _) (fun h => by unfold sz at *; omega) (by unfold sz at *; omega)
/-- There is but one quotient, and one remainder. -/
theorem div_unique (b q q' r r' : List UInt8) (hb : trimL b ≠ []) (h : ∀ n, cv (co q) (co b) n ^^^ co r n = cv (co q') (co b) n ^^^ co r' n) (hr : ∀ j, sz b ≤ j + 1 → co r j = 0) (hr' : ∀ j, sz b ≤ j + 1 → co r' j = 0) :
    trimL q = trimL q' ∧ trimL r = trimL r' := by
  have h0 : 0 < sz b := List.length_pos_iff.2 hb
  have x3 : ∀ u v w z : UInt8, u ^^^ v = w ^^^ z → u ^^^ w = v ^^^ z := fun u v w z h => by
    have : u ^^^ w = (u ^^^ v) ^^^ v ^^^ w := by rw [UInt8.xor_assoc u, UInt8.xor_self, UInt8.xor_zero]
    rw [this, h]
    have : w ^^^ z ^^^ v ^^^ w = v ^^^ z ^^^ (w ^^^ w) := by ac_rfl
    rw [this, UInt8.xor_self, UInt8.xor_zero]
  have hx : ∀ u v : UInt8, u ^^^ v = 0 → u = v := fun u v h => UInt8.xor_eq_zero_iff.1 h
  have hd : ∀ n, cv (co (xorL q q')) (co b) n = co r n ^^^ co r' n := fun n => by
    rw [cv_congr (fun i => co_xor q q' i) (fun _ => rfl), cv_addl]
    exact x3 _ _ _ _ (h n)
  have hz : trimL (xorL q q') = [] := Classical.byContradiction fun hne => by
    have h1 : 0 < sz (xorL q q') := List.length_pos_iff.2 hne
    have ht := (cv_top (sz b - 1) (co b) (fun i hi => sz_co b i (by omega)) (sz (xorL q q') - 1) (co (xorL q q')) fun i hi => sz_co _ i (by omega)).1
    rw [hd, hr _ (by omega), hr' _ (by omega)] at ht
    rcases mul_eq_zero' (a := co (xorL q q') (sz (xorL q q') - 1)) (b := co b (sz b - 1)) (by rw [← ht]; rfl) with e | e
    · exact trim_last _ hne e
    · exact trim_last b hb e
  have hq : ∀ i, co q i = co q' i := fun i => hx _ _ (by rw [← co_xor, ← co_trim, hz]; rfl)
  refine ⟨trim_ext _ _ hq, trim_ext _ _ fun i => ?_⟩
  refine (hx _ _ ?_)
  rw [← hd i]
  exact cv_zerol _ _ _ fun j => by rw [co_xor, hq j, UInt8.xor_self]
theorem div_sum (a b : List UInt8) (hb : trimL b ≠ []) : sumL [prodL (trimL (divR a b).1) b, trimL (divR a b).2] = trimL a := by
  rw [← sum_trim]
  refine trim_ext _ _ fun i => ?_
  rw [co_sum, co_prod, co_trim, ← (div_ok a b hb).1 i]
  congr 1
  exact cv_congr (fun i => co_trim _ i) (fun _ => rfl) i
theorem div_rem (a b : List UInt8) (hb : trimL b ≠ []) : sz (divR a b).2 < sz b := by
  have h0 : 0 < sz b := List.length_pos_iff.2 hb
  have := sz_le (p := (divR a b).2) (n := sz b - 1) fun j hj => (div_ok a b hb).2 j (by omega)
  omega
end Go.Proofs.YtakbedmeieeekaaDoor.S26

namespace Go.Proofs.YtakbedmeieeekaaDoor.S26
open Go Go.Proofs.YtakbedmeieeekaaDoor.Vc Go.Proofs
set_option maxRecDepth 100000

/-! ### Roots -/
theorem horner_lin (z x : UInt8) : horner z [x, 1] = z ^^^ x := by
  show mulL (mulL 0 z ^^^ 1) z ^^^ x = _
  rw [zero_mul', UInt8.zero_xor, one_mul']
theorem horner_const (z c : UInt8) : horner z [c] = c := by
  show mulL 0 z ^^^ c = c
  rw [zero_mul', UInt8.zero_xor]
theorem trim_lin (x : UInt8) : trimL [x, 1] = [x, 1] := trimL_snoc 1 [x]
theorem sz_lin (x : UInt8) : sz [x, 1] = 2 := by unfold sz; rw [trim_lin]; rfl
theorem xor_zero_iff {a b : UInt8} : a ^^^ b = 0 ↔ a = b := UInt8.xor_eq_zero_iff
theorem sz_one {p : List UInt8} (h : sz p ≤ 1) (z : UInt8) : horner z p = co p 0 := by
  have e : ∀ i, co p i = co [co p 0] i := fun i => by
    cases i with
    | zero => rfl
    | succ i => rw [co_succ]; exact sz_co p _ (by omega)
  rw [horner_ext z e, horner_const]
theorem sum_nil (p : List UInt8) : sumL [p, []] = trimL p := by rw [sumL_two, xorL_nil]
/-- A root is split off. -/
theorem factor (p : List UInt8) (x : UInt8) (h : horner x p = 0) : trimL p = prodL (divQ p [x, 1]) [x, 1] := by
  have hb : trimL [x, 1] ≠ [] := by rw [trim_lin]; simp
  have h1 := div_sum p [x, 1] hb
  have h2 := div_rem p [x, 1] hb
  rw [sz_lin] at h2
  have h3 : horner x (trimL (divR p [x, 1]).2) = 0 := by
    have := congrArg (horner x) h1
    rw [horner_sum, horner_prod, horner_lin, UInt8.xor_self, mul_zero', UInt8.zero_xor] at this
    rw [this, horner_trim, h]
  have h4 : trimL (divR p [x, 1]).2 = [] := by
    refine trim_zero _ fun i => ?_
    cases i with
    | zero => rw [horner_trim, sz_one (by omega)] at h3; exact h3
    | succ i => exact sz_co _ _ (by omega)
  rw [h4, sum_nil] at h1
  rw [← h1]
  exact prod_trim _ _
theorem sz_factor (p : List UInt8) (x : UInt8) (h : horner x p = 0) (hp : trimL p ≠ []) : trimL (divQ p [x, 1]) ≠ [] ∧ sz (divQ p [x, 1]) + 1 = sz p := by
  have h1 := factor p x h
  have hq : trimL (divQ p [x, 1]) ≠ [] := fun e => by
    rw [prod_zero_l _ _ e] at h1
    exact hp h1
  have h2 := sz_prod (divQ p [x, 1]) [x, 1] hq (by rw [trim_lin]; simp)
  rw [sz_lin] at h2
  have h3 : sz p = sz (prodL (divQ p [x, 1]) [x, 1]) := by rw [← h1, sz_trim]
  exact ⟨hq, by omega⟩
/-- There are fewer roots than coefficients. -/
theorem roots_lt : ∀ (xs : List UInt8) (p : List UInt8), xs.Nodup → (∀ x ∈ xs, horner x p = 0) → trimL p ≠ [] → xs.length < sz p
  | [], p, _, _, hp => List.length_pos_iff.2 hp
  | x :: xs, p, hn, h, hp => by
    have h1 := factor p x (h x (by simp))
    obtain ⟨h2, h3⟩ := sz_factor p x (h x (by simp)) hp
    rw [List.nodup_cons] at hn
    have := roots_lt xs (divQ p [x, 1]) hn.2 (fun z hz => by
      have h4 : horner z (trimL p) = 0 := by rw [horner_trim]; exact h z (by simp [hz])
      rw [h1, horner_prod, horner_lin] at h4
      rcases mul_eq_zero' h4 with e | e
      · exact e
      · exact absurd (xor_zero_iff.1 e ▸ hz) hn.1) h2
    simp only [List.length_cons]
    omega
theorem poly_zero (xs : List UInt8) (p : List UInt8) (hn : xs.Nodup) (h : ∀ x ∈ xs, horner x p = 0) (hs : sz p ≤ xs.length) : trimL p = [] :=
  Classical.byContradiction fun hp => by
    have := roots_lt xs p hn h hp
    omega
/-- Polynomials that agree at enough places are one. -/
theorem poly_unique (xs p q : List UInt8) (hn : xs.Nodup) (h : ∀ x ∈ xs, horner x p = horner x q) (hp : sz p ≤ xs.length) (hq : sz q ≤ xs.length) : trimL p = trimL q := by
  have hz : trimL (xorL p q) = [] := poly_zero xs _ hn (fun x hx => by rw [horner_xor, h x hx, UInt8.xor_self]) (sz_le fun i hi => by rw [co_xor, sz_co p i (by omega), sz_co q i (by omega)]; rfl)
  refine trim_ext _ _ fun i => ?_
  have : co (xorL p q) i = 0 := by rw [← co_trim, hz]; rfl
  rw [co_xor] at this
  exact xor_zero_iff.1 this

/-! ### The product of all x - xs[k] -/
theorem roots_val (z : UInt8) : ∀ (xs p : List UInt8), (z ∈ xs → horner z (xs.foldl (fun p x => prodL p [x, 1]) p) = 0) ∧ (horner z p = 0 → horner z (xs.foldl (fun p x => prodL p [x, 1]) p) = 0)
  | [], p => ⟨fun h => by simp at h, fun h => h⟩
  | x :: xs, p => by
    obtain ⟨h1, h2⟩ := roots_val z xs (prodL p [x, 1])
    refine ⟨fun h => ?_, fun h => h2 (by rw [horner_prod, h, zero_mul'])⟩
    rcases List.mem_cons.1 h with e | e
    · exact h2 (by rw [horner_prod, horner_lin, e, UInt8.xor_self, mul_zero'])
    · exact h1 e
theorem rootsL_zero (xs : List UInt8) (z : UInt8) (h : z ∈ xs) : horner z (rootsL xs) = 0 := (roots_val z xs [1]).1 h
theorem roots_sz : ∀ (xs p : List UInt8), trimL p ≠ [] → trimL (xs.foldl (fun p x => prodL p [x, 1]) p) ≠ [] ∧ sz (xs.foldl (fun p x => prodL p [x, 1]) p) = sz p + xs.length
  | [], p, h => ⟨h, rfl⟩
  | x :: xs, p, h => by
    have hl : trimL [x, 1] ≠ [] := by rw [trim_lin]; simp
    have h1 := sz_prod p [x, 1] h hl
    rw [sz_lin] at h1
    have h2 : trimL (prodL p [x, 1]) ≠ [] := fun e => by
      rw [prod_trim] at e
      rcases prod_eq_nil e with e | e
      · exact h e
      · exact hl e
    obtain ⟨h3, h4⟩ := roots_sz xs (prodL p [x, 1]) h2
    exact ⟨h3, by show sz (xs.foldl _ (prodL p [x, 1])) = _; rw [h4]; simp only [List.length_cons]; omega⟩
theorem trim_one : trimL [1] = [1] := trimL_snoc 1 []
theorem rootsL_sz (xs : List UInt8) : trimL (rootsL xs) ≠ [] ∧ sz (rootsL xs) = xs.length + 1 := by
  obtain ⟨h1, h2⟩ := roots_sz xs [1] (by rw [trim_one]; simp)
  refine ⟨h1, ?_⟩
  have : sz [1] = 1 := by unfold sz; rw [trim_one]; rfl
  unfold rootsL
  omega

/-! ### The program's interpolation -/
theorem part_val (xs : List UInt8) (hn : xs.Nodup) (x y z : UInt8) (hx : x ∈ xs) (hz : z ∈ xs) : horner z (partL (rootsL xs) x y) = if z = x then y else 0 := by
  have hr := rootsL_zero xs
  have h1 := factor (rootsL xs) x (hr x hx)
  have hs := sz_factor (rootsL xs) x (hr x hx) (rootsL_sz xs).1
  have hq : ∀ z ∈ xs, z ≠ x → horner z (divQ (rootsL xs) [x, 1]) = 0 := fun z hz hne => by
    have h4 : horner z (trimL (rootsL xs)) = 0 := by rw [horner_trim]; exact hr z hz
    rw [h1, horner_prod, horner_lin] at h4
    rcases mul_eq_zero' h4 with e | e
    · exact e
    · exact absurd (xor_zero_iff.1 e) hne
  have hx0 : horner x (divQ (rootsL xs) [x, 1]) ≠ 0 := fun e => by
    have := roots_lt xs (divQ (rootsL xs) [x, 1]) hn (fun z hz => by
      by_cases hzx : z = x
      · rw [hzx]; exact e
      · exact hq z hz hzx) hs.1
    have := (rootsL_sz xs).2
    omega
  unfold partL
  rw [horner_prod, horner_const]
  by_cases hzx : z = x
  · rw [if_pos hzx, hzx]
    have : ∀ a b : UInt8, a ≠ 0 → mulL a (mulL b (invL a)) = b := fun a b ha => by
      rw [mul_comm' b, ← mul_assoc', mul_inv' a ha, one_mul']
    exact this _ _ hx0
  · rw [if_neg hzx, hq z hz hzx, zero_mul']
theorem part_sz (xs : List UInt8) (x y : UInt8) (hx : x ∈ xs) : sz (partL (rootsL xs) x y) ≤ xs.length := by
  have hs := sz_factor (rootsL xs) x (rootsL_zero xs x hx) (rootsL_sz xs).1
  have h1 := (rootsL_sz xs).2
  unfold partL
  have h2 := sz_prod_le (divQ (rootsL xs) [x, 1]) [mulL y (invL (horner x (divQ (rootsL xs) [x, 1])))]
  have h3 := sz_len [mulL y (invL (horner x (divQ (rootsL xs) [x, 1])))]
  simp only [List.length_cons, List.length_nil] at h3
  omega
/-- The sum of the values that belong to a place. -/
def at1 (z : UInt8) (zs : List (UInt8 × UInt8)) (s : UInt8) : UInt8 := zs.foldl (fun s q => s ^^^ (if z = q.1 then q.2 else 0)) s
theorem thrF_val (xs : List UInt8) (hn : xs.Nodup) (z : UInt8) (hz : z ∈ xs) : ∀ (zs : List (UInt8 × UInt8)) (p : List UInt8), (∀ q ∈ zs, q.1 ∈ xs) → horner z (zs.foldl (fun p q => sumL [p, partL (rootsL xs) q.1 q.2]) p) = at1 z zs (horner z p)
  | [], p, _ => rfl
  | q :: zs, p, h => by
    show horner z (zs.foldl _ (sumL [p, partL (rootsL xs) q.1 q.2])) = at1 z zs (horner z p ^^^ (if z = q.1 then q.2 else 0))
    rw [thrF_val xs hn z hz zs _ (fun r hr => h r (by simp [hr])), horner_sum, part_val xs hn q.1 q.2 z (h q (by simp)) hz]
theorem at1_zip (z : UInt8) : ∀ (xs ys : List UInt8) (s : UInt8), xs.Nodup → xs.length = ys.length → (z ∉ xs → at1 z (xs.zip ys) s = s) ∧ ∀ k, k < xs.length → xs.getD k 0 = z → at1 z (xs.zip ys) s = s ^^^ ys.getD k 0
  | [], ys, s, _, _ => ⟨fun _ => rfl, fun k h => by simp at h⟩
  | x :: xs, [], s, _, h => by simp at h
  | x :: xs, y :: ys, s, hn, hl => by
    rw [List.nodup_cons] at hn
    have ih := fun s => at1_zip z xs ys s hn.2 (by simpa using hl)
    refine ⟨fun h => ?_, fun k hk he => ?_⟩
    · have hne : z ≠ x := fun e => h (by simp [e])
      show at1 z (xs.zip ys) (s ^^^ if z = x then y else 0) = s
      rw [if_neg hne, (ih _).1 (fun hm => h (by simp [hm]))]
      simp
    · show at1 z (xs.zip ys) (s ^^^ if z = x then y else 0) = _
      cases k with
      | zero =>
        have e : x = z := he
        rw [if_pos e.symm, (ih _).1 (e ▸ hn.1)]
        rfl
      | succ k =>
        have he : xs.getD k 0 = z := he
        have hk : k < xs.length := by simpa using hk
        have hm : z ∈ xs := by rw [← he]; simp [List.getElem?_eq_getElem hk]
        have hne : z ≠ x := fun e => hn.1 (e ▸ hm)
        rw [if_neg hne, (ih _).2 k hk he]
        simp
theorem thrL_val (xs ys : List UInt8) (h : rightP xs ys) (k : Nat) (hk : k < xs.length) : horner (xs.getD k 0) (thrL xs ys) = ys.getD k 0 := by
  have hm : xs.getD k 0 ∈ xs := by simp [List.getElem?_eq_getElem hk]
  have h1 := thrF_val xs h.1 _ hm (xs.zip ys) [] fun q hq => (List.of_mem_zip hq).1
  have h2 := (at1_zip (xs.getD k 0) xs ys (horner (xs.getD k 0) []) h.1 h.2).2 k hk rfl
  unfold thrL thrF
  rw [h1, h2]
  show 0 ^^^ _ = _
  simp
theorem thrF_sz (xs : List UInt8) : ∀ (zs : List (UInt8 × UInt8)) (p : List UInt8), (∀ q ∈ zs, q.1 ∈ xs) → sz p ≤ xs.length → sz (zs.foldl (fun p q => sumL [p, partL (rootsL xs) q.1 q.2]) p) ≤ xs.length
  | [], p, _, h => h
  | q :: zs, p, hq, h => thrF_sz xs zs _ (fun r hr => hq r (by simp [hr])) (sz_sum_le _ _ _ h (part_sz xs q.1 q.2 (hq q (by simp))))
theorem thrL_sz (xs ys : List UInt8) : sz (thrL xs ys) ≤ xs.length := thrF_sz xs _ [] (fun q hq => (List.of_mem_zip hq).1) (Nat.zero_le _)
theorem fold_trim {α : Type} (f : List UInt8 → α → List UInt8) (hf : ∀ p a, trimL (f p a) = f p a) : ∀ (l : List α) (p : List UInt8), trimL p = p → trimL (l.foldl f p) = l.foldl f p
  | [], p, h => h
  | a :: l, p, _ => fold_trim f hf l _ (hf p a)
theorem thrL_trim (xs ys : List UInt8) : trimL (thrL xs ys) = thrL xs ys := fold_trim _ (fun p q => sum_trim _ _) _ _ rfl
/-- What it returns is the one polynomial through the points. -/
theorem thrL_unique (xs ys p : List UInt8) (h : rightP xs ys) (hp : sz p ≤ xs.length) (hv : ∀ k, k < xs.length → horner (xs.getD k 0) p = ys.getD k 0) : thrL xs ys = trimL p := by
  rw [← thrL_trim]
  refine poly_unique xs _ _ h.1 (fun x hx => ?_) (thrL_sz xs ys) hp
  obtain ⟨k, hk, rfl⟩ := List.mem_iff_getElem.1 hx
  have e : xs.getD k 0 = xs[k] := by simp [List.getElem?_eq_getElem hk]
  rw [← e, thrL_val xs ys h k hk, hv k hk]
end Go.Proofs.YtakbedmeieeekaaDoor.S26

namespace Go.Proofs.YtakbedmeieeekaaDoor.S26
open Go Go.Proofs.YtakbedmeieeekaaDoor.Vc Go.Proofs
set_option maxRecDepth 100000
set_option linter.unusedVariables false

def decT (a b : List UInt8) (d w : Int) : List UInt8 × List Int × Int := (decL a b d w).getD ([], [], 0)
def sDecT : List V → Option (Prop × V × List Blk)
  | [.sl false .u8 a, .sl false .u8 b, .int .i64 d, .int .i64 w] => some (a.length ≤ 10000 ∧ b.length ≤ 10000 ∧ (decL a b d w).isSome = true, .tup [.own .u8 0, .own (.int .i64) 1, .int .i64 ((decT a b d w).2.2)], [.row true .u8 ((decT a b d w).1), .row true (.int .i64) ((decT a b d w).2.1)])
  | _ => none
set_option maxHeartbeats 1000000 in
theorem bDecT (a : List UInt8) (b : List UInt8) (d : Int) (w : Int) (hp0 : a.length ≤ 10000) (hp1 : b.length ≤ 10000) (hp2 : (decL a b d w).isSome = true) : bodyP (En C23 tys G6 []) Tryd.f46 [.o .u8, .o (.int .i64), .k] [.sl false .u8 a, .sl false .u8 b, .int .i64 d, .int .i64 w] (.tup [.own .u8 0, .own (.int .i64) 1, .int .i64 ((decT a b d w).2.2)]) [.row true .u8 ((decT a b d w).1), .row true (.int .i64) ((decT a b d w).2.1)] := by
  obtain ⟨x, hx⟩ := Option.isSome_iff_exists.1 hp2
  obtain ⟨p, l, e⟩ := x
  have h := bDec a b d w p l e hp0 hp1 hx
  unfold decT
  rw [hx]
  exact h
def CDecT : List (Nat × Con) := (46, pureC [.v (.sl .u8), .v (.sl .u8), .v (.int .i64), .v (.int .i64)] sDecT) :: C23
theorem kDecT : Known Tryd.prog (En CDecT tys G6 []) := k23.add Tryd.func46 Tryd.call46 [.o .u8, .o (.int .i64), .k] fun ds p v bs h hp => by
  unfold sDecT at h
  split at h <;> simp only [Option.some.injEq, Prod.mk.injEq, reduceCtorEq] at h
  obtain ⟨rfl, rfl, rfl⟩ := h
  exact bDecT _ _ _ _ hp.1 hp.2.1 hp.2.2
end Go.Proofs.YtakbedmeieeekaaDoor.S26

namespace Go.Proofs.YtakbedmeieeekaaDoor.S26
open Go

/-! ### strings of bytes -/
def fillF (f : Nat → UInt8) (n k : Nat) : List UInt8 := (List.range n).map fun i => if i < k then f i else 0
theorem fill_len (f : Nat → UInt8) (n k : Nat) : (fillF f n k).length = n := by simp [fillF]
theorem fill_zero (f : Nat → UInt8) (n : Nat) : fillF f n 0 = List.replicate n 0 := by
  apply List.ext_getElem
  · simp [fillF]
  · intro i h1 h2; simp [fillF]
theorem fill_set (f : Nat → UInt8) {n k : Nat} (h : k < n) : (fillF f n k).set k (f k) = fillF f n (k + 1) := by
  apply List.ext_getElem
  · simp [fillF]
  · intro i h1 h2
    rw [List.getElem_set]
    simp only [fillF, List.getElem_map, List.getElem_range]
    by_cases e : k = i
    · subst e; simp
    · rw [if_neg e]
      by_cases g : i < k
      · rw [if_pos g, if_pos (by omega)]
      · rw [if_neg g, if_neg (by omega)]
theorem fill_all (f : Nat → UInt8) (n : Nat) : fillF f n n = (List.range n).map f := by
  apply List.map_congr_left
  intro i hi
  rw [List.mem_range] at hi
  rw [if_pos hi]
def scaleF (c : UInt8) (s : List UInt8) (i : Nat) : UInt8 := mulL c (s.getD i 0)
def scaleB (c : UInt8) (s : List UInt8) : List UInt8 := (List.range s.length).map (scaleF c s)
def sumG (a b : List UInt8) (i : Nat) : UInt8 := if i < b.length then a.getD i 0 ^^^ b.getD i 0 else a.getD i 0
def sumF (a b : List UInt8) : List UInt8 := (List.range a.length).map (sumG a b)
def sumB (a b : List UInt8) : List UInt8 := if a.length < b.length then sumF b a else sumF a b
theorem scale_len (c : UInt8) (s : List UInt8) : (scaleB c s).length = s.length := by simp [scaleB]
theorem sum_len (a b : List UInt8) : (sumB a b).length = max a.length b.length := by
  unfold sumB
  split <;> simp [sumF] <;> omega
end Go.Proofs.YtakbedmeieeekaaDoor.S26

namespace Go.Proofs.YtakbedmeieeekaaDoor.S26
open Go Go.Proofs.YtakbedmeieeekaaDoor.Vc Go.Proofs
set_option maxRecDepth 100000
set_option linter.unusedVariables false

def sGSc : List V → Option (Prop × V × List Blk)
  | [.int .i64 k, .rp false .u8 c 0, .rp false .str s 0] => some (0 ≤ k ∧ k < (s.length : Int), .u8 (scaleF c s k.toNat), [])
  | _ => none
set_option maxHeartbeats 1000000 in
theorem bGSc (k : Int) (c : UInt8) (s : List UInt8) (hp0 : 0 ≤ k) (hp1 : k < (s.length : Int)) : bodyP (En CDecT tys G6 []) Tryd.f56 [.k] [.int .i64 k, .rp false .u8 c 0, .rp false .str s 0] (.u8 (scaleF c s k.toNat)) [] := by
  refine ⟨by kernel_rfl, ⟨by show (0 : Int) ≤ k; omega, by show k < (s.length : Int); omega⟩, trivial, ?_⟩
  exact ⟨rfl, rfl, rfl, rfl⟩
def CGSc : List (Nat × Con) := (56, pureC [.v (.int .i64), .ref .u8, .ref .str] sGSc) :: CDecT
theorem kGSc : Known Tryd.prog (En CGSc tys G6 []) := kDecT.add Tryd.func56 Tryd.call56 [.k] fun ds p v bs h hp => by
  unfold sGSc at h
  split at h <;> simp only [Option.some.injEq, Prod.mk.injEq, reduceCtorEq] at h
  obtain ⟨rfl, rfl, rfl⟩ := h
  exact bGSc _ _ _ hp.1 hp.2
def sGSm : List V → Option (Prop × V × List Blk)
  | [.int .i64 k, .rp false .str b 0, .rp false .str a 0] => some (0 ≤ k ∧ k < (a.length : Int), .u8 (sumG a b k.toNat), [])
  | _ => none
set_option maxHeartbeats 1000000 in
theorem bGSm (k : Int) (b : List UInt8) (a : List UInt8) (hp0 : 0 ≤ k) (hp1 : k < (a.length : Int)) : bodyP (En CGSc tys G6 []) Tryd.f53 [.k] [.int .i64 k, .rp false .str b 0, .rp false .str a 0] (.u8 (sumG a b k.toNat)) [] := by
  refine ⟨fun h0 => ?_, fun h0 => ?_⟩
  · replace h0 : k < (b.length : Int) := h0
    refine ⟨by kernel_rfl, ⟨by show (0 : Int) ≤ k; omega, by show k < (a.length : Int); omega⟩, ⟨by show (0 : Int) ≤ k; omega, by show k < (b.length : Int); omega⟩, ?_⟩
    rw [show sumG a b k.toNat = _ from if_pos (by omega)]
    exact ⟨rfl, rfl, rfl, rfl⟩
  · replace h0 : ¬ (k < (b.length : Int)) := h0
    refine ⟨⟨by show (0 : Int) ≤ k; omega, by show k < (a.length : Int); omega⟩, ?_⟩
    rw [show sumG a b k.toNat = _ from if_neg (by omega)]
    exact ⟨rfl, rfl, rfl, rfl⟩
def CGSm : List (Nat × Con) := (53, pureC [.v (.int .i64), .ref .str, .ref .str] sGSm) :: CGSc
theorem kGSm : Known Tryd.prog (En CGSm tys G6 []) := kGSc.add Tryd.func53 Tryd.call53 [.k] fun ds p v bs h hp => by
  unfold sGSm at h
  split at h <;> simp only [Option.some.injEq, Prod.mk.injEq, reduceCtorEq] at h
  obtain ⟨rfl, rfl, rfl⟩ := h
  exact bGSm _ _ _ hp.1 hp.2
set_option maxHeartbeats 1000000 in
theorem bGBu0 (z : Int) (c : UInt8) (s : List UInt8) (hp0 : z = (s.length : Int)) (hp1 : s.length ≤ 1000000000) : bodyP (En CGSm tys G6 []) Tryd.f52 [.k] [.int .i64 z, .fn 56 [.rp false .u8 c 0, .rp false .str s 0]] (.str (scaleB c s)) [] := by
  refine ⟨⟨rfl, by show (0 : Int) ≤ z; omega, by show z ≤ (1000000000 : Int); omega⟩, 0, [(1, .k), (5, .o .u8), (9, .k), (10, .k)], fun nM vs H => ∃ (k : Nat), (k : Int) ≤ z ∧ nM = z.toNat - k ∧ vs = [.fn 56 [.rp false .u8 c 0, .rp false .str s 0], .own .u8 0, .int .i64 z, .int .i64 (k : Int)] ∧ H = [.row true .u8 (fillF (scaleF c s) z.toNat k)], ⟨rfl, z.toNat, 0, by omega, by omega, rfl, by rw [fill_zero]; rfl⟩, ?_⟩
  rintro nM vs H ⟨k, hc1_0, rfl, rfl, rfl⟩
  refine ⟨fun h0 => ?_, fun h0 => ?_⟩
  · replace h0 : (k : Int) < z := h0
    have hl := fill_len (scaleF c s) z.toNat k
    refine ⟨rfl, ⟨by show 0 ≤ (k : Int); first | omega | assumption, by show (k : Int) < (s.length : Int); first | omega | assumption⟩, ⟨by show (0 : Int) ≤ (k : Int); omega, by show (k : Int) < ((fillF (scaleF c s) z.toNat k).length : Int); omega⟩, ⟨rfl, rfl⟩, ⟨by show (-9223372036854775808 : Int) ≤ ((k : Int) + 1); omega, by show ((k : Int) + 1) ≤ (9223372036854775807 : Int); omega⟩, ?_⟩
    exact ⟨rfl, z.toNat - (k + 1), by omega, k + 1, by omega, rfl, rfl, by rw [← fill_set _ (by omega : k < z.toNat)]; rfl⟩
  · replace h0 : ¬ ((k : Int) < z) := h0
    rw [show k = z.toNat by omega, fill_all, show z.toNat = s.length by omega]
    exact ⟨rfl, rfl, rfl, rfl⟩
set_option maxHeartbeats 1000000 in
theorem bGBu1 (z : Int) (b : List UInt8) (a : List UInt8) (hp0 : z = (a.length : Int)) (hp1 : a.length ≤ 1000000000) : bodyP (En CGSm tys G6 []) Tryd.f52 [.k] [.int .i64 z, .fn 53 [.rp false .str b 0, .rp false .str a 0]] (.str (sumF a b)) [] := by
  refine ⟨⟨rfl, by show (0 : Int) ≤ z; omega, by show z ≤ (1000000000 : Int); omega⟩, 0, [(1, .k), (5, .o .u8), (9, .k), (10, .k)], fun nM vs H => ∃ (k : Nat), (k : Int) ≤ z ∧ nM = z.toNat - k ∧ vs = [.fn 53 [.rp false .str b 0, .rp false .str a 0], .own .u8 0, .int .i64 z, .int .i64 (k : Int)] ∧ H = [.row true .u8 (fillF (sumG a b) z.toNat k)], ⟨rfl, z.toNat, 0, by omega, by omega, rfl, by rw [fill_zero]; rfl⟩, ?_⟩
  rintro nM vs H ⟨k, hc1_0, rfl, rfl, rfl⟩
  refine ⟨fun h0 => ?_, fun h0 => ?_⟩
  · replace h0 : (k : Int) < z := h0
    have hl := fill_len (sumG a b) z.toNat k
    refine ⟨rfl, ⟨by show 0 ≤ (k : Int); first | omega | assumption, by show (k : Int) < (a.length : Int); first | omega | assumption⟩, ⟨by show (0 : Int) ≤ (k : Int); omega, by show (k : Int) < ((fillF (sumG a b) z.toNat k).length : Int); omega⟩, ⟨rfl, rfl⟩, ⟨by show (-9223372036854775808 : Int) ≤ ((k : Int) + 1); omega, by show ((k : Int) + 1) ≤ (9223372036854775807 : Int); omega⟩, ?_⟩
    exact ⟨rfl, z.toNat - (k + 1), by omega, k + 1, by omega, rfl, rfl, by rw [← fill_set _ (by omega : k < z.toNat)]; rfl⟩
  · replace h0 : ¬ ((k : Int) < z) := h0
    rw [show k = z.toNat by omega, fill_all, show z.toNat = a.length by omega]
    exact ⟨rfl, rfl, rfl, rfl⟩
def sGBu : List V → Option (Prop × V × List Blk)
  | [.int .i64 z, .fn 56 [.rp false .u8 c 0, .rp false .str s 0]] => some (z = (s.length : Int) ∧ s.length ≤ 1000000000, .str (scaleB c s), [])
  | [.int .i64 z, .fn 53 [.rp false .str b 0, .rp false .str a 0]] => some (z = (a.length : Int) ∧ a.length ≤ 1000000000, .str (sumF a b), [])
  | _ => none
def CGBu : List (Nat × Con) := (52, pureC [.v (.int .i64), .fn [(56, [.ref .u8, .ref .str]), (53, [.ref .str, .ref .str])]] sGBu) :: CGSm
theorem kGBu : Known Tryd.prog (En CGBu tys G6 []) := kGSm.add Tryd.func52 Tryd.call52 [.k] fun ds p v bs h hp => by
  unfold sGBu at h
  split at h <;> simp only [Option.some.injEq, Prod.mk.injEq, reduceCtorEq] at h
  · obtain ⟨rfl, rfl, rfl⟩ := h
    exact bGBu0 _ _ _ hp.1 hp.2
  · obtain ⟨rfl, rfl, rfl⟩ := h
    exact bGBu1 _ _ _ hp.1 hp.2
def sGScl : List V → Option (Prop × V × List Blk)
  | [.u8 c, .str s] => some (s.length ≤ 1000000000, .str (scaleB c s), [])
  | _ => none
set_option maxHeartbeats 1000000 in
theorem bGScl (c : UInt8) (s : List UInt8) (hp0 : s.length ≤ 1000000000) : bodyP (En CGBu tys G6 []) Tryd.f34 [.k] [.u8 c, .str s] (.str (scaleB c s)) [] := by
  refine ⟨rfl, ⟨by show (s.length : Int) = (s.length : Int); first | omega | assumption, by show s.length ≤ 1000000000; first | omega | assumption⟩, ?_⟩
  exact ⟨rfl, rfl, rfl, rfl⟩
def CGScl : List (Nat × Con) := (34, pureC [.v .u8, .v .str] sGScl) :: CGBu
theorem kGScl : Known Tryd.prog (En CGScl tys G6 []) := kGBu.add Tryd.func34 Tryd.call34 [.k] fun ds p v bs h hp => by
  unfold sGScl at h
  split at h <;> simp only [Option.some.injEq, Prod.mk.injEq, reduceCtorEq] at h
  obtain ⟨rfl, rfl, rfl⟩ := h
  exact bGScl _ _ hp
def sGSum : List V → Option (Prop × V × List Blk)
  | [.str a, .str b] => some (a.length ≤ 1000000000 ∧ b.length ≤ 1000000000, .str (sumB a b), [])
  | _ => none
set_option maxHeartbeats 1000000 in
theorem bGSum (a : List UInt8) (b : List UInt8) (hp0 : a.length ≤ 1000000000) (hp1 : b.length ≤ 1000000000) : bodyP (En CGScl tys G6 []) Tryd.f31 [.k] [.str a, .str b] (.str (sumB a b)) [] := by
  refine ⟨fun h0 => ?_, fun h0 => ?_⟩
  · replace h0 : (a.length : Int) < (b.length : Int) := h0
    refine ⟨⟨rfl, rfl, rfl⟩, ⟨rfl, rfl, rfl⟩, rfl, ⟨by show (b.length : Int) = (b.length : Int); first | omega | assumption, by show b.length ≤ 1000000000; first | omega | assumption⟩, ?_⟩
    rw [show sumB a b = sumF b a from if_pos (by omega)]
    exact ⟨rfl, rfl, rfl, rfl⟩
  · replace h0 : ¬ ((a.length : Int) < (b.length : Int)) := h0
    refine ⟨rfl, ⟨by show (a.length : Int) = (a.length : Int); first | omega | assumption, by show a.length ≤ 1000000000; first | omega | assumption⟩, ?_⟩
    rw [show sumB a b = sumF a b from if_neg (by omega)]
    exact ⟨rfl, rfl, rfl, rfl⟩
def CGSum : List (Nat × Con) := (31, pureC [.v .str, .v .str] sGSum) :: CGScl
theorem kGSum : Known Tryd.prog (En CGSum tys G6 []) := kGScl.add Tryd.func31 Tryd.call31 [.k] fun ds p v bs h hp => by
  unfold sGSum at h
  split at h <;> simp only [Option.some.injEq, Prod.mk.injEq, reduceCtorEq] at h
  obtain ⟨rfl, rfl, rfl⟩ := h
  exact bGSum _ _ hp.1 hp.2
end Go.Proofs.YtakbedmeieeekaaDoor.S26

namespace Go.Proofs.YtakbedmeieeekaaDoor.S26
open Go Go.Proofs.YtakbedmeieeekaaDoor.Vc Go.Proofs
set_option maxRecDepth 100000
def lnA (xk : UInt8) (k : Nat) : List UInt8 → Nat → List UInt8 → List UInt8
  | [], _, p => p
  | x :: rest, i, p => lnA xk k rest (i + 1) (if i ≠ k then prodL p [mulL x (invL (xk ^^^ x)), invL (xk ^^^ x)] else p)
def lnO (xs ys : List UInt8) : Nat → Nat → List UInt8 → List UInt8
  | 0, _, out => out
  | f + 1, k, out => lnO xs ys f (k + 1) (sumL [out, lnA (xs.getD k 0) k xs 0 [ys.getD k 0]])
def lineL (xs ys : List UInt8) : List UInt8 := lnO xs ys xs.length 0 []
theorem lin2_val (z x c : UInt8) : horner z [mulL x c, c] = mulL (z ^^^ x) c := by
  show mulL (mulL 0 z ^^^ c) z ^^^ mulL x c = _
  rw [zero_mul', UInt8.zero_xor, mul_comm' c z, mulL_add]
theorem lnA_keep (z xk : UInt8) (k : Nat) (hz : z = xk) : ∀ (xs : List UInt8) (i : Nat) (p : List UInt8), (∀ m, m < xs.length → i + m ≠ k → xs.getD m 0 ≠ xk) → horner z (lnA xk k xs i p) = horner z p
  | [], i, p, _ => rfl
  | x :: xs, i, p, h => by
    rw [lnA, lnA_keep z xk k hz xs (i + 1) _ fun m hm hne => h (m + 1) (by simpa using hm) (by omega)]
    by_cases hi : i ≠ k
    · rw [if_pos hi, horner_prod, lin2_val, hz]
      have hx : x ≠ xk := h 0 (by simp) (by omega)
      rw [mul_inv' _ (fun e => hx (xor_zero_iff.1 e).symm), mul_one']
    · rw [if_neg hi]
theorem lnA_dies (z xk : UInt8) (k : Nat) : ∀ (xs : List UInt8) (i : Nat) (p : List UInt8), (horner z p = 0 → horner z (lnA xk k xs i p) = 0) ∧ ∀ m, m < xs.length → i + m ≠ k → xs.getD m 0 = z → horner z (lnA xk k xs i p) = 0
  | [], i, p => ⟨fun h => h, fun m hm => by simp at hm⟩
  | x :: xs, i, p => by
    rw [lnA]
    obtain ⟨h1, h2⟩ := lnA_dies z xk k xs (i + 1) (if i ≠ k then prodL p [mulL x (invL (xk ^^^ x)), invL (xk ^^^ x)] else p)
    refine ⟨fun h => h1 ?_, fun m hm hne he => ?_⟩
    · split
      · rw [horner_prod, h, zero_mul']
      · exact h
    · cases m with
      | zero =>
        have he : x = z := he
        refine h1 ?_
        rw [if_pos (by omega), horner_prod, lin2_val, he, UInt8.xor_self, zero_mul', mul_zero']
      | succ m => exact h2 m (by simpa using hm) (by omega) he
theorem lnA_sz (xk : UInt8) (k : Nat) : ∀ (xs : List UInt8) (i : Nat) (p : List UInt8), sz (lnA xk k xs i p) ≤ sz p + xs.length ∧ (i ≤ k → k < i + xs.length → sz (lnA xk k xs i p) + 1 ≤ sz p + xs.length)
  | [], i, p => ⟨Nat.le_refl _, fun h1 h2 => by simp at h2; omega⟩
  | x :: xs, i, p => by
    rw [lnA]
    obtain ⟨h1, h2⟩ := lnA_sz xk k xs (i + 1) (if i ≠ k then prodL p [mulL x (invL (xk ^^^ x)), invL (xk ^^^ x)] else p)
    have h3 := sz_prod_le p [mulL x (invL (xk ^^^ x)), invL (xk ^^^ x)]
    have h4 := sz_len [mulL x (invL (xk ^^^ x)), invL (xk ^^^ x)]
    simp only [List.length_cons, List.length_nil] at h4 ⊢
    by_cases hi : i = k
    · rw [if_neg (by omega)] at h1 h2 ⊢
      exact ⟨by omega, fun _ _ => by omega⟩
    · rw [if_pos hi] at h1 h2 ⊢
      exact ⟨by omega, fun h5 h6 => by have := h2 (by omega) (by omega); omega⟩
theorem nodup_inj (xs : List UInt8) (hn : xs.Nodup) (i j : Nat) (hi : i < xs.length) (hj : j < xs.length) (h : xs.getD i 0 = xs.getD j 0) : i = j := by
  simp only [List.getD_eq_getElem?_getD, List.getElem?_eq_getElem hi, List.getElem?_eq_getElem hj, Option.getD_some] at h
  have hp := List.pairwise_iff_getElem.1 hn
  rcases Nat.lt_trichotomy i j with g | g | g
  · exact absurd h (hp i j hi hj g)
  · exact g
  · exact absurd h.symm (hp j i hj hi g)
theorem lnO_val (xs ys : List UInt8) (hn : xs.Nodup) (j : Nat) (hj : j < xs.length) : ∀ (f k : Nat) (out : List UInt8), k + f = xs.length → horner (xs.getD j 0) (lnO xs ys f k out) = horner (xs.getD j 0) out ^^^ (if k ≤ j then ys.getD j 0 else 0)
  | 0, k, out, h => by rw [lnO, if_neg (by omega)]; simp
  | f + 1, k, out, h => by
    rw [lnO, lnO_val xs ys hn j hj f (k + 1) _ (by omega), horner_sum]
    have hne : ∀ m, m < xs.length → m ≠ k → xs.getD m 0 ≠ xs.getD k 0 := fun m hm hmk e => by
      have hk : k < xs.length := by omega
      exact hmk (nodup_inj xs hn m k hm hk e)
    by_cases hjk : j = k
    · have h1 := lnA_keep (xs.getD j 0) (xs.getD k 0) k (by rw [hjk]) xs 0 [ys.getD k 0] fun m hm hmk => hne m hm (by omega)
      rw [h1, horner_const, if_neg (by omega), if_pos (by omega), hjk]
      simp
    · have h1 := (lnA_dies (xs.getD j 0) (xs.getD k 0) k xs 0 [ys.getD k 0]).2 j hj (by omega) rfl
      rw [h1]
      by_cases hlt : k ≤ j
      · rw [if_pos (by omega), if_pos hlt]; simp
      · rw [if_neg (by omega), if_neg hlt]; simp
theorem lnO_sz (xs ys : List UInt8) : ∀ (f k : Nat) (out : List UInt8), k + f = xs.length → sz out ≤ xs.length → sz (lnO xs ys f k out) ≤ xs.length
  | 0, k, out, _, h => h
  | f + 1, k, out, hk, h => by
    rw [lnO]
    refine lnO_sz xs ys f (k + 1) _ (by omega) (sz_sum_le _ _ _ h ?_)
    have h1 := (lnA_sz (xs.getD k 0) k xs 0 [ys.getD k 0]).2 (Nat.zero_le _) (by omega)
    have h2 := sz_len [ys.getD k 0]
    simp only [List.length_cons, List.length_nil] at h2
    omega
theorem lnO_trim (xs ys : List UInt8) : ∀ (f k : Nat) (out : List UInt8), trimL out = out → trimL (lnO xs ys f k out) = lnO xs ys f k out
  | 0, k, out, h => h
  | f + 1, k, out, _ => lnO_trim xs ys f (k + 1) _ (sum_trim _ _)
theorem lineL_val (xs ys : List UInt8) (hn : xs.Nodup) (j : Nat) (hj : j < xs.length) : horner (xs.getD j 0) (lineL xs ys) = ys.getD j 0 := by
  unfold lineL
  rw [lnO_val xs ys hn j hj _ _ _ (by omega), if_pos (by omega)]
  show 0 ^^^ _ = _
  simp
theorem lineL_sz (xs ys : List UInt8) : sz (lineL xs ys) ≤ xs.length := lnO_sz xs ys _ _ _ (by omega) (Nat.zero_le _)
theorem lineL_trim (xs ys : List UInt8) : trimL (lineL xs ys) = lineL xs ys := lnO_trim xs ys _ _ _ rfl
theorem thr_line (xs ys : List UInt8) (h : rightP xs ys) : thrL xs ys = lineL xs ys := by
  rw [← lineL_trim]
  exact thrL_unique xs ys _ h (lineL_sz xs ys) fun k hk => lineL_val xs ys h.1 k hk
theorem missA_nil (p xs ys : List UInt8) : ∀ n, (missA p xs ys n).length = 0 ↔ ∀ k, k < n → horner (xs.getD k 0) p = ys.getD k 0
  | 0 => ⟨fun _ k h => by omega, fun _ => rfl⟩
  | n + 1 => by
    have ih := missA_nil p xs ys n
    unfold missA
    by_cases h : horner (xs.getD n 0) p ≠ ys.getD n 0
    · rw [if_pos h]
      refine ⟨fun h1 => ?_, fun h1 => absurd (h1 n (by omega)) h⟩
      rw [List.length_append] at h1
      simp at h1
    · rw [if_neg h]
      rw [ih]
      have h := Classical.not_not.1 h
      refine ⟨fun h1 k hk => ?_, fun h1 k hk => h1 k (by omega)⟩
      by_cases e : k = n
      · rw [e]; exact h
      · exact h1 k (by omega)
theorem getD_take (l : List UInt8) (n k : Nat) (h : k < n) : (l.take n).getD k 0 = l.getD k 0 := by
  simp [List.getD_eq_getElem?_getD, List.getElem?_take, h]
theorem right_take (a b : List UInt8) (n : Nat) (h : rightP a b) : rightP (a.take n) (b.take n) :=
  ⟨h.1.sublist (List.take_sublist _ _), by rw [List.length_take, List.length_take, h.2]⟩
end Go.Proofs.YtakbedmeieeekaaDoor.S26

namespace Go.Proofs.YtakbedmeieeekaaDoor.S26
open Go Go.Proofs.YtakbedmeieeekaaDoor.Vc Go.Proofs
set_option maxRecDepth 100000

/-! ### Decoding -/
theorem sz_eq_len {p : List UInt8} (h : trimL p = p) : sz p = p.length := by unfold sz; rw [h]
theorem sz_sum_right (a b : List UInt8) (h : sz a < sz b) : sz (sumL [a, b]) = sz b := by
  have hb : trimL b ≠ [] := fun e => by have := sz_zero.2 e; omega
  have h1 : sz (sumL [a, b]) = sz b - 1 + 1 := sz_eq (fun i hi => by rw [co_sum, sz_co a i (by omega), sz_co b i (by omega)]; rfl) (by
    rw [co_sum, sz_co a _ (by omega), UInt8.zero_xor]
    exact trim_last b hb)
  omega
theorem divQ_sz (a b : List UInt8) (hb : trimL b ≠ []) (h : sz b ≤ sz a) : sz (divQ a b) + sz b = sz a + 1 := by
  have h1 := div_sum a b hb
  have h2 := div_rem a b hb
  have h0 : 0 < sz b := List.length_pos_iff.2 hb
  have ha : sz (sumL [prodL (divQ a b) b, trimL (divR a b).2]) = sz a := by
    show sz (sumL [prodL (trimL (divR a b).1) b, trimL (divR a b).2]) = sz a
    rw [h1, sz_trim]
  have hq : trimL (divQ a b) ≠ [] := fun e => by
    have h3 : prodL (divQ a b) b = [] := prod_zero_l _ _ e
    have h4 := sz_sum_le (prodL (divQ a b) b) (trimL (divR a b).2) (sz b - 1) (by rw [h3]; exact Nat.zero_le _) (by rw [sz_trim]; omega)
    omega
  have h5 := sz_prod (divQ a b) b hq hb
  have hq0 : 0 < sz (divQ a b) := List.length_pos_iff.2 hq
  have h6 : sz (sumL [prodL (divQ a b) b, trimL (divR a b).2]) = sz (prodL (divQ a b) b) := by
    have e : sumL [prodL (divQ a b) b, trimL (divR a b).2] = sumL [trimL (divR a b).2, prodL (divQ a b) b] := by
      refine (sum_trim _ _).symm.trans ((trim_ext _ _ fun i => ?_).trans (sum_trim _ _))
      rw [co_sum, co_sum, UInt8.xor_comm]
    rw [e]
    exact sz_sum_right _ _ (by rw [sz_trim]; omega)
  omega
/-- What stays so in the loop. -/
structure EuInv (xs ys : List UInt8) (m : Int) (a b u v : List UInt8) : Prop where
  ta : trimL a = a
  tb : trimL b = b
  tu : trimL u = u
  tv : trimL v = v
  ea : ∀ k, k < xs.length → horner (xs.getD k 0) a = mulL (horner (xs.getD k 0) u) (ys.getD k 0)
  eb : ∀ k, k < xs.length → horner (xs.getD k 0) b = mulL (horner (xs.getD k 0) v) (ys.getD k 0)
  lt : sz b < sz a
  uv : sz u < sz v
  sum : sz v + sz a = xs.length + 2
  big : m ≤ 2 * degL a
theorem eu_ok (xs ys : List UInt8) (hxs : xs.length ≤ 10000) (m : Int) (hm : 0 ≤ m) : ∀ (f : Nat) (a b u v : List UInt8), sz b < f → EuInv xs ys m a b u v →
    ∃ b' v', eu f m a b u v = some (b', v') ∧ trimL v' ≠ [] ∧ 2 * degL b' < m ∧ m + 2 * degL v' ≤ 2 * xs.length ∧ ∀ k, k < xs.length → horner (xs.getD k 0) b' = mulL (horner (xs.getD k 0) v') (ys.getD k 0)
  | 0, a, b, u, v, h, _ => by omega
  | f + 1, a, b, u, v, h, I => by
    have h1 := I.sum
    have h2 := I.lt
    have h3 := I.uv
    have hsm : small a ∧ small b ∧ small u ∧ small v := by
      have e1 := sz_eq_len I.ta
      have e2 := sz_eq_len I.tb
      have e3 := sz_eq_len I.tu
      have e4 := sz_eq_len I.tv
      unfold small
      omega
    unfold eu
    rw [if_pos hsm]
    by_cases hb : 2 * degL b < m
    · rw [if_pos hb]
      refine ⟨b, v, rfl, fun e => ?_, hb, ?_, I.eb⟩
      · have := sz_zero.2 e; omega
      · have := I.big
        rw [degL_sz] at this ⊢
        omega
    · rw [if_neg hb]
      have hb0 : trimL b ≠ [] := fun e => by
        have := sz_zero.2 e
        rw [degL_sz] at hb
        omega
      rw [if_neg hb0]
      have hr := div_rem a b hb0
      have hq := divQ_sz a b hb0 (by omega)
      have hv0 : trimL v ≠ [] := fun e => by have := sz_zero.2 e; omega
      have hq0 : trimL (divQ a b) ≠ [] := fun e => by have := sz_zero.2 e; omega
      have hqv := sz_prod (divQ a b) v hq0 hv0
      have hsv : sz (sumL [u, prodL (divQ a b) v]) = sz (prodL (divQ a b) v) := sz_sum_right _ _ (by omega)
      have hrem : sz (divM a b) = sz (divR a b).2 := sz_trim _
      refine eu_ok xs ys hxs m hm f b (divM a b) v (sumL [u, prodL (divQ a b) v]) (by rw [hrem]; omega) ⟨I.tb, trim_idem _, I.tv, sum_trim _ _, I.eb, fun k hk => ?_, by rw [hrem]; exact hr, by omega, by omega, by omega⟩
      have hd := congrArg (horner (xs.getD k 0)) (div_sum a b hb0)
      rw [horner_sum, horner_prod, horner_trim (xs.getD k 0) a] at hd
      have e1 : horner (xs.getD k 0) (divM a b) = horner (xs.getD k 0) a ^^^ mulL (horner (xs.getD k 0) (divQ a b)) (horner (xs.getD k 0) b) := by
        rw [← hd]
        show _ = (mulL (horner (xs.getD k 0) (divQ a b)) (horner (xs.getD k 0) b) ^^^ horner (xs.getD k 0) (divM a b)) ^^^ _
        have : ∀ x y : UInt8, y = x ^^^ y ^^^ x := fun x y => by
          have : x ^^^ y ^^^ x = y ^^^ (x ^^^ x) := by ac_rfl
          rw [this]; simp
        exact this _ _
      rw [e1, I.ea k hk, I.eb k hk, horner_sum, horner_prod, mulL_add, ← mul_assoc']
theorem eu_start (xs ys : List UInt8) (h : rightP xs ys) (d : Int) (hd : d < xs.length) : EuInv xs ys (xs.length + d + 1) (rootsL xs) (thrL xs ys) [] [1] where
  ta := fold_trim _ (fun p x => prod_trim _ _) _ _ trim_one
  tb := thrL_trim xs ys
  tu := rfl
  tv := trim_one
  ea k hk := by
    rw [rootsL_zero xs _ (by simp [List.getElem?_eq_getElem hk])]
    exact (zero_mul' _).symm
  eb k hk := by
    rw [thrL_val xs ys h k hk, horner_const, one_mul']
  lt := by
    have h1 := (rootsL_sz xs).2
    have h2 := thrL_sz xs ys
    omega
  uv := by
    have : sz [1] = 1 := by unfold sz; rw [trim_one]; rfl
    rw [this]; exact Nat.zero_lt_one
  sum := by
    have h1 := (rootsL_sz xs).2
    have : sz [1] = 1 := by unfold sz; rw [trim_one]; rfl
    omega
  big := by
    have h1 := (rootsL_sz xs).2
    rw [degL_sz]
    omega
/-- The places that a polynomial misses. -/
def missX (p xs ys : List UInt8) : Nat → List UInt8
  | 0 => []
  | k + 1 => if horner (xs.getD k 0) p ≠ ys.getD k 0 then missX p xs ys k ++ [xs.getD k 0] else missX p xs ys k
theorem missX_len (p xs ys : List UInt8) : ∀ n, (missX p xs ys n).length = (missA p xs ys n).length
  | 0 => rfl
  | n + 1 => by
    have := missX_len p xs ys n
    unfold missX missA
    split
    · rw [List.length_append, List.length_append, this]; rfl
    · exact this
theorem missX_mem (p xs ys : List UInt8) : ∀ n k, k < n → horner (xs.getD k 0) p ≠ ys.getD k 0 → xs.getD k 0 ∈ missX p xs ys n
  | 0, k, h, _ => by omega
  | n + 1, k, h, hne => by
    unfold missX
    by_cases e : k = n
    · rw [e] at hne ⊢
      rw [if_pos hne]
      simp
    · have := missX_mem p xs ys n k (by omega) hne
      split
      · exact List.mem_append_left _ this
      · exact this
theorem missA_ext (p q xs ys : List UInt8) (h : ∀ x, horner x p = horner x q) : ∀ n, missA p xs ys n = missA q xs ys n
  | 0 => rfl
  | n + 1 => by
    unfold missA
    rw [missA_ext p q xs ys h n, h]
theorem missA_trim (p xs ys : List UInt8) (n : Nat) : missA (trimL p) xs ys n = missA p xs ys n := missA_ext _ _ _ _ (fun x => horner_trim x p) n
def decOk (xs : List UInt8) (d w : Int) : Prop := ¬ (d < 0 ∨ w < 0 ∨ (xs.length : Int) ≤ d ∨ ((xs.length : Int) - d - 1) / 2 < w)
theorem dec_run (xs ys : List UInt8) (hr : rightP xs ys) (hxs : xs.length ≤ 10000) (d w : Int) (hc : decOk xs d w) :
    ∃ b v, decL xs ys d w = decEnd xs ys d w b v ∧ trimL v ≠ [] ∧ 2 * degL b < xs.length + d + 1 ∧ d + 1 + 2 * degL v ≤ xs.length ∧ ∀ k, k < xs.length → horner (xs.getD k 0) b = mulL (horner (xs.getD k 0) v) (ys.getD k 0) := by
  unfold decOk at hc
  have h1 := thrL_sz xs ys
  obtain ⟨b, v, he, hv, hb, hs, hk⟩ := eu_ok xs ys hxs (xs.length + d + 1) (by omega) 20000 _ _ _ _ (by omega) (eu_start xs ys hr d (by omega))
  refine ⟨b, v, ?_, hv, hb, by omega, hk⟩
  unfold decL
  rw [if_pos hr, if_neg hc, he]
theorem decEnd_cases (xs ys : List UInt8) (d w : Int) (b v : List UInt8) (hv : trimL v ≠ []) :
    (decEnd xs ys d w b v = some ([], [], 17)) ∨ (decEnd xs ys d w b v = some (divQ b v, missA (divQ b v) xs ys xs.length, 0) ∧ degL (divQ b v) ≤ d ∧ ((missA (divQ b v) xs ys xs.length).length : Int) ≤ w) := by
  unfold decEnd
  rw [if_neg hv]
  split
  · exact .inl rfl
  · split
    · exact .inl rfl
    · split
      · exact .inl rfl
      · exact .inr ⟨rfl, by omega, by omega⟩
/-- A polynomial that misses few points is found. -/
theorem dec_complete (xs ys : List UInt8) (hr : rightP xs ys) (hxs : xs.length ≤ 10000) (d w : Int) (hc : decOk xs d w) (q : List UInt8) (hq : degL q ≤ d) (hm : ((missA q xs ys xs.length).length : Int) ≤ w) :
    decL xs ys d w = some (trimL q, missA q xs ys xs.length, 0) := by
  obtain ⟨b, v, he, hv, hb, hs, hk⟩ := dec_run xs ys hr hxs d w hc
  unfold decOk at hc
  obtain ⟨e, hee⟩ : ∃ e, e = rootsL (missX q xs ys xs.length) := ⟨_, rfl⟩
  have hes : trimL e ≠ [] ∧ sz e = (missA q xs ys xs.length).length + 1 := by rw [hee, ← missX_len]; exact rootsL_sz _
  have hv1 : 0 < sz v := List.length_pos_iff.2 hv
  rw [degL_sz] at hq hb hs
  have hbe := sz_prod_le b e
  have hve := sz_prod_le v e
  have hveq := sz_prod_le (prodL v e) q
  have hAB : trimL (prodL b e) = trimL (prodL (prodL v e) q) := by
    refine poly_unique xs _ _ hr.1 (fun x hx => ?_) (by omega) (by omega)
    obtain ⟨k, hk', rfl⟩ := List.mem_iff_getElem.1 hx
    have e1 : xs.getD k 0 = xs[k] := by simp [List.getElem?_eq_getElem hk']
    rw [← e1, horner_prod, horner_prod, horner_prod, hk k hk']
    by_cases hmiss : horner (xs.getD k 0) q = ys.getD k 0
    · rw [hmiss]; ac_rfl
    · have : horner (xs.getD k 0) e = 0 := by rw [hee]; exact rootsL_zero _ _ (missX_mem q xs ys _ k hk' hmiss)
      rw [this, mul_zero', mul_zero', zero_mul']
  have hb1 : trimL b = trimL (prodL v q) := by
    refine (div_unique e b (prodL v q) [] [] hes.1 (fun n => ?_) (fun _ _ => rfl) (fun _ _ => rfl)).1
    congr 1
    rw [← co_prod, ← co_prod]
    refine co_eq_of_trim ?_ n
    rw [hAB, prod_assoc, prod_assoc, prod_comm e q]
  have hd := div_ok b v hv
  have h0 : 0 < sz v := hv1
  obtain ⟨h5, h6⟩ := div_unique v (divR b v).1 q (divR b v).2 [] hv (fun n => by
    rw [hd.1 n, co_nil, co_eq_of_trim hb1 n, co_prod, cv_comm]; simp) hd.2 (fun _ _ => rfl)
  have hQ : divQ b v = trimL q := h5
  have hM : divM b v = [] := h6
  rw [he]
  unfold decEnd
  rw [if_neg hv, hM, if_neg (by simp), hQ, if_neg (by rw [degL_sz, sz_trim]; omega), missA_trim, if_neg (by omega)]
/-- What is returned. -/
theorem dec_sound (xs ys : List UInt8) (hr : rightP xs ys) (hxs : xs.length ≤ 10000) (d w : Int) (hc : decOk xs d w) :
    decL xs ys d w = some ([], [], 17) ∨ ∃ p, decL xs ys d w = some (p, missA p xs ys xs.length, 0) ∧ trimL p = p ∧ degL p ≤ d ∧ ((missA p xs ys xs.length).length : Int) ≤ w := by
  obtain ⟨b, v, he, hv, hb, hs, hk⟩ := dec_run xs ys hr hxs d w hc
  rw [he]
  rcases decEnd_cases xs ys d w b v hv with h | ⟨h1, h2, h3⟩
  · exact .inl h
  · exact .inr ⟨divQ b v, h1, trim_idem _, h2, h3⟩
theorem dec_some (xs ys : List UInt8) (hxs : xs.length ≤ 10000) (d w : Int) : (decL xs ys d w).isSome = true := by
  by_cases hr : rightP xs ys
  · by_cases hc : decOk xs d w
    · rcases dec_sound xs ys hr hxs d w hc with h | ⟨p, h, _⟩ <;> rw [h] <;> rfl
    · unfold decOk at hc
      unfold decL
      rw [if_pos hr, if_pos (Classical.not_not.1 hc)]
      rfl
  · unfold decL
    rw [if_neg hr]
    rfl
end Go.Proofs.YtakbedmeieeekaaDoor.S26

namespace Go.Proofs.YtakbedmeieeekaaDoor.S26
open Go Go.Proofs.YtakbedmeieeekaaDoor.Vc Go.Proofs
set_option maxRecDepth 100000
theorem dropD {α : Type} (d : α) (l : List α) (k : Nat) (h : k < l.length) : l.drop k = l.getD k d :: l.drop (k + 1) := by
  rw [List.drop_eq_getElem_cons h]
  simp [List.getD_eq_getElem?_getD, h]
theorem takeD {α : Type} (d : α) (l : List α) (k : Nat) (h : k < l.length) : l.take (k + 1) = l.take k ++ [l.getD k d] := by
  rw [List.take_succ_eq_append_getElem h]
  simp [List.getD_eq_getElem?_getD, h]
theorem getD_mem {α : Type} (d : α) (l : List α) (k : Nat) (h : k < l.length) : l.getD k d ∈ l := by
  simp [List.getD_eq_getElem?_getD, h]
theorem getD_mem' {α : Type} {d : α} {l : List α} {x : α} (h : x ∈ l) : ∃ k, k < l.length ∧ l.getD k d = x := by
  obtain ⟨k, hk, e⟩ := List.mem_iff_getElem.1 h
  exact ⟨k, hk, by simp [List.getD_eq_getElem?_getD, hk, e]⟩
theorem all_bad {α : Type} {d : α} {p : α → Bool} {l : List α} {k : Nat} (hk : k < l.length) (hc : (l.drop k).all p = l.all p) (h : p (l.getD k d) = false) : l.all p = false := by
  rw [← hc, dropD d l k hk, List.all_cons, h, Bool.false_and]
theorem all_next {α : Type} {d : α} {p : α → Bool} {l : List α} {k : Nat} (hk : k < l.length) (hc : (l.drop k).all p = l.all p) (h : p (l.getD k d) = true) : (l.drop (k + 1)).all p = l.all p := by
  rw [← hc, dropD d l k hk, List.all_cons, h, Bool.true_and]
theorem all_stop {α : Type} {p : α → Bool} {l : List α} {k : Nat} (hk : l.length ≤ k) (hc : (l.drop k).all p = l.all p) : l.all p = true := by
  rw [← hc, List.drop_eq_nil_of_le hk]; rfl
theorem drop_cons {α : Type} {l r : List α} {x d : α} {k : Nat} (h : l.drop k = x :: r) : k < l.length ∧ l.getD k d = x ∧ l.drop (k + 1) = r := by
  have hk : k < l.length := by
    rcases Nat.lt_or_ge k l.length with g | g
    · exact g
    · rw [List.drop_eq_nil_of_le g] at h; cases h
  rw [dropD d l k hk] at h
  injection h with h1 h2
  exact ⟨hk, h1, h2⟩
theorem drop_nil {α : Type} {l : List α} {k : Nat} (hk : k ≤ l.length) (h : l.drop k = []) : k = l.length := by
  have := List.drop_eq_nil_iff.1 h; omega
theorem drop_all {α : Type} {P : α → Prop} {l : List α} (h : ∀ s ∈ l, P s) (k : Nat) : ∀ s ∈ l.drop k, P s := fun s hs => h s (List.mem_of_mem_drop hs)
theorem two_len {a b : List UInt8} {N : Nat} (h1 : a.length ≤ N) (h2 : b.length ≤ N) : ∀ s ∈ [a, b], s.length ≤ N := fun s hs => by
  rcases List.mem_cons.1 hs with e | hs
  · rw [e]; exact h1
  · rw [List.mem_singleton.1 hs]; exact h2
def pt (h : Int) : UInt8 := UInt8.ofNat ((h + 1) % 256).toNat
def knw (h : Int) : Prop := 0 ≤ h ∧ h < 12
instance (h : Int) : Decidable (knw h) := by unfold knw; infer_instance
theorem all_false {α : Type} {p : α → Bool} {l : List α} (h : ¬ l.all p = false) : ∀ x ∈ l, p x = true := fun x hx => by
  have : l.all p = true := by simpa using h
  exact List.all_eq_true.1 this x hx
theorem map_take_snoc {α β : Type} (d : α) (f : α → β) (l : List α) (k : Nat) (h : k < l.length) : (l.take (k + 1)).map f = (l.take k).map f ++ [f (l.getD k d)] := by
  rw [takeD d l k h, List.map_append]; rfl
theorem rangeBad {p : Nat → Bool} {k m : Nat} (hk : k < m) (h : p k = false) : (List.range m).all p = false := by
  rw [Bool.eq_false_iff]
  intro e
  rw [List.all_eq_true.1 e k (List.mem_range.2 hk)] at h
  cases h
theorem rangeAll {p : Nat → Bool} {k : Nat} (h : (List.range k).all p = true) (hk : p k = true) : (List.range (k + 1)).all p = true := by
  rw [List.range_succ, List.all_append, h, List.all_cons, hk]; rfl
theorem mapT_len {α β : Type} (f : α → β) (l : List α) (k : Nat) (h : k ≤ l.length) : ((l.take k).map f).length = k := by rw [List.length_map, List.length_take]; omega
theorem tp_len (a b : List UInt8) (d : Int) : (tpL a b d).1.length ≤ 2 * a.length + 3 := by
  unfold tpL
  split
  · split
    · simp
    · split
      · exact Nat.zero_le _
      · have := thrL_len a b
        split <;> simp <;> omega
  · simp
def xs' (f : Nat → UInt8) : Nat → UInt8
  | 0 => 0
  | n + 1 => xs' f n ^^^ f n
theorem xs_congr {f g : Nat → UInt8} : ∀ {n : Nat}, (∀ i, i < n → f i = g i) → xs' f n = xs' g n
  | 0, _ => rfl
  | n + 1, h => by
    show xs' f n ^^^ f n = xs' g n ^^^ g n
    rw [xs_congr fun i hi => h i (by omega), h n (by omega)]
theorem xs_zero : ∀ (n : Nat), xs' (fun _ => 0) n = 0
  | 0 => rfl
  | n + 1 => by
    show xs' _ n ^^^ 0 = 0
    rw [xs_zero n]; rfl
theorem xs_add (f g : Nat → UInt8) : ∀ n, xs' (fun i => f i ^^^ g i) n = xs' f n ^^^ xs' g n
  | 0 => by simp [xs']
  | n + 1 => by
    show xs' _ n ^^^ (f n ^^^ g n) = (xs' f n ^^^ f n) ^^^ (xs' g n ^^^ g n)
    rw [xs_add f g n]; ac_rfl
theorem xs_mul (c : UInt8) (f : Nat → UInt8) : ∀ n, xs' (fun i => mulL c (f i)) n = mulL c (xs' f n)
  | 0 => (mul_zero' c).symm
  | n + 1 => by
    show xs' _ n ^^^ mulL c (f n) = mulL c (xs' f n ^^^ f n)
    rw [xs_mul c f n, mulL_addr]
theorem xs_swap (f : Nat → Nat → UInt8) (m : Nat) : ∀ n, xs' (fun i => xs' (f i) m) n = xs' (fun j => xs' (fun i => f i j) n) m
  | 0 => (xs_zero m).symm
  | n + 1 => by
    show xs' (fun i => xs' (f i) m) n ^^^ xs' (f n) m = _
    rw [xs_swap f m n, ← xs_add]
    rfl
def pw (x : UInt8) : Nat → UInt8
  | 0 => 1
  | n + 1 => mulL x (pw x n)
theorem xs_shift (f : Nat → UInt8) : ∀ n, xs' f (n + 1) = f 0 ^^^ xs' (fun i => f (i + 1)) n
  | 0 => by show (0 : UInt8) ^^^ f 0 = f 0 ^^^ 0; simp
  | n + 1 => by
    show xs' f (n + 1) ^^^ f (n + 1) = f 0 ^^^ (xs' (fun i => f (i + 1)) n ^^^ f (n + 1))
    rw [xs_shift f n]; ac_rfl
theorem horner_xs (x : UInt8) : ∀ (p : List UInt8) (n : Nat), p.length ≤ n → horner x p = xs' (fun i => mulL (co p i) (pw x i)) n
  | [], n, _ => by
    rw [show (fun i => mulL (co [] i) (pw x i)) = fun _ => 0 from funext fun i => by rw [co_nil, zero_mul'], xs_zero]; rfl
  | c :: p, 0, h => by simp at h
  | c :: p, n + 1, h => by
    rw [xs_shift]
    show mulL (horner x p) x ^^^ c = mulL c (pw x 0) ^^^ _
    rw [show pw x 0 = 1 from rfl, mul_one', horner_xs x p n (by simpa using h), mul_comm' _ x, ← xs_mul, UInt8.xor_comm]
    congr 1
    exact xs_congr fun i _ => by
      show mulL x (mulL (co p i) (pw x i)) = mulL (co p i) (mulL x (pw x i))
      ac_rfl
theorem scale_get {c : UInt8} {s : List UInt8} {k : Nat} (h : k < s.length) : (scaleB c s).getD k 0 = mulL c (s.getD k 0) := by
  simp [scaleB, scaleF, List.getD_eq_getElem?_getD, h]
theorem sum_get {a b : List UInt8} {k : Nat} (hl : a.length = b.length) (h : k < a.length) : (sumB a b).getD k 0 = a.getD k 0 ^^^ b.getD k 0 := by
  unfold sumB
  rw [if_neg (by omega)]
  simp [sumF, sumG, List.getD_eq_getElem?_getD, h, hl ▸ h]
theorem ext_get {a b : List UInt8} {N : Nat} (ha : a.length = N) (hb : b.length = N) (h : ∀ k, k < N → a.getD k 0 = b.getD k 0) : a = b := by
  apply List.ext_getElem (by omega)
  intro i h1 h2
  have := h i (by omega)
  simpa [List.getD_eq_getElem?_getD, h1, h2] using this
theorem pt_nat {h : Nat} (hh : h < 12) : (pt (h : Int)).toNat = h + 1 := by
  unfold pt
  rw [show (((h : Int) + 1) % 256).toNat = h + 1 by omega]
  simp; omega
theorem pt_inj {a b : Nat} (ha : a < 12) (hb : b < 12) (h : pt (a : Int) = pt (b : Int)) : a = b := by
  have := congrArg UInt8.toNat h
  rw [pt_nat ha, pt_nat hb] at this; omega
theorem pt_ne {a : Nat} (ha : a < 12) : pt (a : Int) ≠ 0 := fun h => by
  have := congrArg UInt8.toNat h
  rw [pt_nat ha] at this; simp at this
theorem nodup_pts : ∀ (l : List Nat), l.Nodup → (∀ i ∈ l, i < 12) → (l.map fun i : Nat => pt (i : Int)).Nodup
  | [], _, _ => List.nodup_nil
  | a :: l, hn, hl => by
    rw [List.map_cons, List.nodup_cons]
    rw [List.nodup_cons] at hn
    refine ⟨fun hm => ?_, nodup_pts l hn.2 fun i hi => hl i (by simp [hi])⟩
    obtain ⟨b, hb, e⟩ := List.mem_map.1 hm
    have := pt_inj (hl b (by simp [hb])) (hl a (by simp)) e
    subst this
    exact hn.1 hb
end Go.Proofs.YtakbedmeieeekaaDoor.S26

namespace Go.Proofs.YtakbedmeieeekaaDoor.S26
open Go Go.Proofs.YtakbedmeieeekaaDoor.Vc Go.Proofs Go.RowKit Go.Maps Go.Sort Go.Shelf
def Tryd.keysA_ren : Go.Shelf.Ren := ⟨fun | 7 => 50 | 10 => 72 | n => n, fun | 23 => 87 | 26 => 3 | 3 => 4 | 28 => 97 | 0 => 0 | 27 => 96 | 33 => 78 | 4 => 4 | n => n, fun | n => n⟩
theorem Tryd.keysA : Go.Proofs.SlLaysZI.n7 Tryd.prog Tryd.keysA_ren := {
  mixed := by kernel_rfl
  f7 := ⟨Tryd.f50.name, by decide, Tryd.func50.trans (congrArg some (by kernel_rfl))⟩
  f10 := ⟨Tryd.f72.name, by decide, Tryd.func72.trans (congrArg some (by kernel_rfl))⟩
  t0 := Tryd.underlying0
  a0 := Tryd.isAgg0
  z0 := Tryd.sizeOf0
  v0 := Tryd.zeroValue0
  t4 := Tryd.underlying4
  a4 := Tryd.isAgg4
  z4 := Tryd.sizeOf4
  v4 := Tryd.zeroValue4
  t23 := Tryd.underlying87
  a23 := Tryd.isAgg87
  z23 := Tryd.sizeOf87
  v23 := Tryd.zeroValue87
  t26 := Tryd.underlying3
  a26 := Tryd.isAgg3
  z26 := Tryd.sizeOf3
  v26 := Tryd.zeroValue3
  t27 := Tryd.underlying96
  a27 := Tryd.isAgg96
  z27 := Tryd.sizeOf96
  v27 := Tryd.zeroValue96
  t28 := Tryd.underlying97
  a28 := Tryd.isAgg97
  z28 := Tryd.sizeOf97
  v28 := Tryd.zeroValue97
  t33 := Tryd.underlying78
  a33 := Tryd.isAgg78
  z33 := Tryd.sizeOf78
  v33 := Tryd.zeroValue78 }
def Tryd.sortedA_ren : Go.Shelf.Ren := ⟨fun | 6 => 49 | 8 => 70 | 9 => 71 | 11 => 81 | 13 => 83 | 12 => 82 | 23 => 96 | 24 => 97 | 14 => 87 | 15 => 88 | 16 => 89 | 17 => 90 | 18 => 91 | 19 => 92 | 20 => 93 | 21 => 94 | 22 => 95 | 25 => 98 | 26 => 99 | 27 => 100 | 28 => 101 | 29 => 102 | 30 => 103 | 31 => 104 | n => n, fun | 26 => 3 | 28 => 97 | 24 => 22 | 0 => 0 | 3 => 3 | 37 => 123 | 48 => 142 | 50 => 144 | 4 => 4 | 40 => 135 | 39 => 134 | 45 => 50 | 5 => 5 | 9 => 9 | 51 => 145 | 55 => 149 | 57 => 151 | 58 => 152 | 33 => 78 | n => n, fun | n => n⟩
theorem Tryd.sortedA : Go.Proofs.SlLaysZI.n6 Tryd.prog Tryd.sortedA_ren := {
  mixed := by kernel_rfl
  f6 := ⟨Tryd.f49.name, by decide, Tryd.func49.trans (congrArg some (by kernel_rfl))⟩
  f8 := ⟨Tryd.f70.name, by decide, Tryd.func70.trans (congrArg some (by kernel_rfl))⟩
  f11 := ⟨Tryd.f81.name, by decide, Tryd.func81.trans (congrArg some (by kernel_rfl))⟩
  t0 := Tryd.underlying0
  a0 := Tryd.isAgg0
  z0 := Tryd.sizeOf0
  v0 := Tryd.zeroValue0
  t24 := Tryd.underlying22
  a24 := Tryd.isAgg22
  z24 := Tryd.sizeOf22
  v24 := Tryd.zeroValue22
  t26 := Tryd.underlying3
  a26 := Tryd.isAgg3
  z26 := Tryd.sizeOf3
  v26 := Tryd.zeroValue3
  t28 := Tryd.underlying97
  a28 := Tryd.isAgg97
  z28 := Tryd.sizeOf97
  v28 := Tryd.zeroValue97
  i26 := by kernel_rfl }
def Tryd.sortA_ren : Go.Shelf.Ren := ⟨fun | 5 => 71 | 8 => 83 | 7 => 82 | 19 => 96 | 20 => 97 | 10 => 87 | 11 => 88 | 12 => 89 | 13 => 90 | 14 => 91 | 15 => 92 | 16 => 93 | 17 => 94 | 18 => 95 | 30 => 98 | 31 => 99 | 32 => 100 | 33 => 101 | 34 => 102 | 35 => 103 | 40 => 104 | n => n, fun | 23 => 22 | 25 => 3 | 3 => 3 | 32 => 123 | 22 => 22 | 0 => 0 | 44 => 142 | 46 => 144 | 4 => 4 | 36 => 135 | 35 => 134 | 41 => 50 | 5 => 5 | 9 => 9 | 53 => 145 | 57 => 149 | 63 => 151 | 64 => 152 | n => n, fun | n => n⟩
theorem Tryd.sortA : Go.Proofs.SlLaysM.n5 Tryd.prog Tryd.sortA_ren := {
  mixed := by kernel_rfl
  f5 := ⟨Tryd.f71.name, by decide, Tryd.func71.trans (congrArg some (by kernel_rfl))⟩
  f7 := ⟨Tryd.f82.name, by decide, Tryd.func82.trans (congrArg some (by kernel_rfl))⟩
  f8 := Tryd.func83.trans (congrArg some (by kernel_rfl))
  f10 := ⟨Tryd.f87.name, by decide, Tryd.func87.trans (congrArg some (by kernel_rfl))⟩
  f11 := ⟨Tryd.f88.name, by decide, Tryd.func88.trans (congrArg some (by kernel_rfl))⟩
  f12 := ⟨Tryd.f89.name, by decide, Tryd.func89.trans (congrArg some (by kernel_rfl))⟩
  f13 := ⟨Tryd.f90.name, by decide, Tryd.func90.trans (congrArg some (by kernel_rfl))⟩
  f14 := ⟨Tryd.f91.name, by decide, Tryd.func91.trans (congrArg some (by kernel_rfl))⟩
  f15 := ⟨Tryd.f92.name, by decide, Tryd.func92.trans (congrArg some (by kernel_rfl))⟩
  f16 := ⟨Tryd.f93.name, by decide, Tryd.func93.trans (congrArg some (by kernel_rfl))⟩
  f17 := ⟨Tryd.f94.name, by decide, Tryd.func94.trans (congrArg some (by kernel_rfl))⟩
  f18 := ⟨Tryd.f95.name, by decide, Tryd.func95.trans (congrArg some (by kernel_rfl))⟩
  f19 := Tryd.func96.trans (congrArg some (by kernel_rfl))
  f20 := Tryd.func97.trans (congrArg some (by kernel_rfl))
  f30 := ⟨Tryd.f98.name, by decide, Tryd.func98.trans (congrArg some (by kernel_rfl))⟩
  f31 := Tryd.func99.trans (congrArg some (by kernel_rfl))
  f32 := Tryd.func100.trans (congrArg some (by kernel_rfl))
  f33 := ⟨Tryd.f101.name, by decide, Tryd.func101.trans (congrArg some (by kernel_rfl))⟩
  f34 := ⟨Tryd.f102.name, by decide, Tryd.func102.trans (congrArg some (by kernel_rfl))⟩
  f35 := ⟨Tryd.f103.name, by decide, Tryd.func103.trans (congrArg some (by kernel_rfl))⟩
  f40 := ⟨Tryd.f104.name, by decide, Tryd.func104.trans (congrArg some (by kernel_rfl))⟩
  t0 := Tryd.underlying0
  a0 := Tryd.isAgg0
  z0 := Tryd.sizeOf0
  v0 := Tryd.zeroValue0
  t3 := Tryd.underlying3
  a3 := Tryd.isAgg3
  z3 := Tryd.sizeOf3
  v3 := Tryd.zeroValue3
  t4 := Tryd.underlying4
  a4 := Tryd.isAgg4
  z4 := Tryd.sizeOf4
  v4 := Tryd.zeroValue4
  t5 := Tryd.underlying5
  a5 := Tryd.isAgg5
  z5 := Tryd.sizeOf5
  v5 := Tryd.zeroValue5
  t9 := Tryd.underlying9
  a9 := Tryd.isAgg9
  z9 := Tryd.sizeOf9
  v9 := Tryd.zeroValue9
  t22 := Tryd.underlying22
  a22 := Tryd.isAgg22
  z22 := Tryd.sizeOf22
  v22 := Tryd.zeroValue22
  t23 := Tryd.underlying22
  a23 := Tryd.isAgg22
  z23 := Tryd.sizeOf22
  v23 := Tryd.zeroValue22
  t25 := Tryd.underlying3
  a25 := Tryd.isAgg3
  z25 := Tryd.sizeOf3
  v25 := Tryd.zeroValue3
  t32 := Tryd.underlying123
  a32 := Tryd.isAgg123
  z32 := Tryd.sizeOf123
  v32 := Tryd.zeroValue123
  t35 := Tryd.underlying134
  a35 := Tryd.isAgg134
  z35 := Tryd.sizeOf134
  v35 := Tryd.zeroValue134
  t36 := Tryd.underlying135
  a36 := Tryd.isAgg135
  z36 := Tryd.sizeOf135
  v36 := Tryd.zeroValue135
  t41 := Tryd.underlying50
  a41 := Tryd.isAgg50
  z41 := Tryd.sizeOf50
  v41 := Tryd.zeroValue50
  t44 := Tryd.underlying142
  a44 := Tryd.isAgg142
  z44 := Tryd.sizeOf142
  v44 := Tryd.zeroValue142
  t46 := Tryd.underlying144
  a46 := Tryd.isAgg144
  z46 := Tryd.sizeOf144
  v46 := Tryd.zeroValue144
  t53 := Tryd.underlying145
  a53 := Tryd.isAgg145
  z53 := Tryd.sizeOf145
  v53 := Tryd.zeroValue145
  t57 := Tryd.underlying149
  a57 := Tryd.isAgg149
  z57 := Tryd.sizeOf149
  v57 := Tryd.zeroValue149
  t63 := Tryd.underlying151
  a63 := Tryd.isAgg151
  z63 := Tryd.sizeOf151
  v63 := Tryd.zeroValue151
  t64 := Tryd.underlying152
  a64 := Tryd.isAgg152
  z64 := Tryd.sizeOf152
  v64 := Tryd.zeroValue152 }

theorem sortsA (m : Nat) : AnyZI.SortsIn Tryd.prog Tryd.sortedA_ren Fence.wide m :=
  ⟨fun blk off cap ss W hH hblk hsz => callsIn_wide.2 (AnyM.slices_Sort_int Tryd.sortA blk off cap ss W hH hblk hsz),
   fun p cap W => callsIn_wide.2 (AnyM.slices_Sort_int_none Tryd.sortA p cap W)⟩
theorem keysLaw : KeysLaw Tryd.prog 50 72 := ⟨87, fun mb W => (callsIn_wide (n := 5)).1 (AnyZI.keys_in Tryd.keysA Fence.wide 5 trivial rfl mb W)⟩
theorem sortedLaw : SortedLaw Tryd.prog 49 72 := by
  refine ⟨3, Tryd.underlying3, fun Bm b nn D0 w hBm hc hown hmax hbytes => ?_⟩
  have hseq : SeqGives Fence.wide 2 Tryd.prog 72 #[.pointer (some ⟨Bm, 0, none⟩)] encZ (fun ss => ss.Perm (intKeys D0)) (Maps.size D0) w :=
    AnyZI.keys_gives (ρ := Tryd.keysA_ren) { Tryd.keysA with } Fence.wide _ trivial rfl (by omega) Bm b nn D0 _ hBm hc hown
  have cS := AnyZI.sorted_in Tryd.sortedA Fence.wide 5 trivial trivial trivial trivial rfl (by omega) (sortsA _) (enters_of Tryd.func71 (by kernel_rfl) rfl) 72 #[.pointer (some ⟨Bm, 0, none⟩)] trivial (enters_of Tryd.func72 (by kernel_rfl) rfl) _ _ hmax hbytes _ hseq
  change CallsIn _ _ Tryd.prog 49 _ _ _ at cS
  refine ((callsIn_wide (n := 5)).1 cS).mono ?_
  rintro e w' ⟨v, ss, rfl, hS, hrow, hnil, hb⟩
  exact ⟨v, ss, _, rfl, hS, hrow, hnil, hb⟩
end Go.Proofs.YtakbedmeieeekaaDoor.S26

namespace Go.Proofs.YtakbedmeieeekaaDoor.S26
open Go Go.Proofs.YtakbedmeieeekaaDoor.Vc Go.Proofs
set_option maxRecDepth 100000

/-! ### lists of shares -/
def smB (s : (Int × List UInt8 × Unit)) : Bool := decide (s.2.1.length ≤ 4096)
def lnS (l : List (Int × List UInt8 × Unit)) : Nat := (l.getD 0 (0, [], ())).2.1.length
def okP (l : List (Int × List UInt8 × Unit)) (k : Nat) : Prop := knw (l.getD k (0, [], ())).1 ∧ (k = 0 ∨ (l.getD (k - 1) (0, [], ())).1 < (l.getD k (0, [], ())).1) ∧ (l.getD k (0, [], ())).2.1.length = lnS l
instance (l : List (Int × List UInt8 × Unit)) (k : Nat) : Decidable (okP l k) := by unfold okP; infer_instance
def okS (l : List (Int × List UInt8 × Unit)) (k : Nat) : Bool := decide (okP l k)
def chkE (l : List (Int × List UInt8 × Unit)) : Int := if 12 < l.length ∨ l.all smB = false then 2 else if (List.range l.length).all (okS l) = true then 0 else 1
structure ShOk (l : List (Int × List UInt8 × Unit)) : Prop where
  len : l.length ≤ 12
  max : lnS l ≤ 4096
  bytes : ∀ s ∈ l, s.2.1.length = lnS l
  house : ∀ s ∈ l, knw s.1
  up : ∀ k, k + 1 < l.length → (l.getD k (0, [], ())).1 < (l.getD (k + 1) (0, [], ())).1
theorem chk2 {l : List (Int × List UInt8 × Unit)} (h : 12 < l.length ∨ l.all smB = false) : chkE l = 2 := if_pos h
theorem chk1 {l : List (Int × List UInt8 × Unit)} (h1 : ¬ 12 < l.length) (h2 : ¬ l.all smB = false) {k : Nat} (hk : k < l.length) (h : ¬ okP l k) : chkE l = 1 := by
  unfold chkE
  rw [if_neg (fun e => e.elim h1 h2), if_neg]
  rw [rangeBad hk (show okS l k = false from decide_eq_false h)]; decide
theorem chk0' {l : List (Int × List UInt8 × Unit)} (h1 : ¬ 12 < l.length) (h2 : ¬ l.all smB = false) (h : (List.range l.length).all (okS l) = true) : chkE l = 0 := by
  unfold chkE
  rw [if_neg (fun e => e.elim h1 h2), if_pos h]
theorem chk0 {l : List (Int × List UInt8 × Unit)} (h : chkE l = 0) : ShOk l := by
  unfold chkE at h
  split at h
  · cases h
  · rename_i h1
    split at h
    · rename_i h2
      have h3 : ∀ k, k < l.length → okP l k := fun k hk => of_decide_eq_true (List.all_eq_true.1 h2 k (List.mem_range.2 hk))
      have h4 : ∀ s ∈ l, s.2.1.length ≤ 4096 := fun s hs => of_decide_eq_true (all_false (fun e => h1 (.inr e)) s hs)
      refine ⟨Nat.le_of_not_lt fun e => h1 (.inl e), ?_, fun s hs => ?_, fun s hs => ?_, fun k hk => ?_⟩
      · rcases Nat.eq_zero_or_pos l.length with g | g
        · have := List.eq_nil_of_length_eq_zero g; subst this; simp [lnS]
        · exact h4 _ (getD_mem (0, [], ()) l 0 g)
      · obtain ⟨k, hk, rfl⟩ := getD_mem' (d := (0, [], ())) hs
        exact (h3 k hk).2.2
      · obtain ⟨k, hk, rfl⟩ := getD_mem' (d := (0, [], ())) hs
        exact (h3 k hk).1
      · have := (h3 (k + 1) hk).2.1
        rcases this with g | g
        · omega
        · simpa using g
    · cases h
theorem ok_next {l : List (Int × List UInt8 × Unit)} {k : Nat} (h : ∀ j, j < k → okS l j = true) (hk : okS l k = true) : ∀ j, j < k + 1 → okS l j = true := fun j hj => by
  rcases Nat.lt_or_eq_of_le (Nat.le_of_lt_succ hj) with g | g
  · exact h j g
  · rw [g]; exact hk
theorem chk0'' {l : List (Int × List UInt8 × Unit)} {k : Nat} (h1 : ¬ 12 < l.length) (h2 : ¬ l.all smB = false) (h : ∀ j, j < k → okS l j = true) (hk : l.length ≤ k) : chkE l = 0 :=
  chk0' h1 h2 (List.all_eq_true.2 fun j hj => h j (by have := List.mem_range.1 hj; omega))
theorem okS_yes {l : List (Int × List UInt8 × Unit)} {k : Nat} (h1 : knw (l.getD k (0, [], ())).1) (h2 : k = 0 ∨ ¬ (l.getD k (0, [], ())).1 ≤ (l.getD ((k : Int) - 1).toNat (0, [], ())).1) (h3 : ¬ (((l.getD k (0, [], ())).2.1.length : Nat) : Int) ≠ (((l.getD 0 (0, [], ())).2.1.length : Nat) : Int)) : okS l k = true := by
  refine decide_eq_true ⟨h1, ?_, by unfold lnS; omega⟩
  rcases h2 with h | h
  · exact .inl h
  · rw [show ((k : Int) - 1).toNat = k - 1 by omega] at h; exact .inr (by omega)
theorem chk_cases (l : List (Int × List UInt8 × Unit)) : chkE l = 0 ∨ chkE l = 1 ∨ chkE l = 2 := by
  unfold chkE
  split
  · exact .inr (.inr rfl)
  · split
    · exact .inl rfl
    · exact .inr (.inl rfl)
/-- Where the first one stands that is too large. -/
def ixF (l : List (Int × List UInt8 × Unit)) : Int := if l.all smB = true then -1 else ((l.takeWhile smB).length : Int)
theorem ixF_no {l : List (Int × List UInt8 × Unit)} {k : Nat} (hk : l.length ≤ k) (hc : (l.drop k).all smB = l.all smB) : ixF l = -1 := if_pos (all_stop hk hc)
theorem takeWhile_at {α : Type} {p : α → Bool} {d : α} : ∀ {l : List α} {k : Nat}, k < l.length → (l.take k).all p = true → p (l.getD k d) = false → (l.takeWhile p).length = k
  | [], k, h, _, _ => by simp at h
  | x :: l, 0, _, _, h => by
    have h : p x = false := h
    simp [List.takeWhile, h]
  | x :: l, k + 1, hk, ha, h => by
    simp only [List.take_succ_cons, List.all_cons, Bool.and_eq_true] at ha
    rw [List.takeWhile_cons, if_pos ha.1, List.length_cons, takeWhile_at (by simpa using hk) ha.2 (by simpa using h)]
theorem take_all {α : Type} {p : α → Bool} {d : α} {l : List α} {k : Nat} (hk : k < l.length) (h : (l.take k).all p = true) (hp : p (l.getD k d) = true) : (l.take (k + 1)).all p = true := by
  rw [takeD d l k hk, List.all_append, h]; show (true && (p (l.getD k d) && true)) = true; rw [hp]; rfl
theorem take_bad {α : Type} {p : α → Bool} {d : α} {l : List α} {k : Nat} (hk : k < l.length) (hp : p (l.getD k d) = false) : l.all p = false := by
  rw [List.all_eq_false]
  exact ⟨_, getD_mem d l k hk, by rw [hp]; decide⟩
theorem ixF_at {l : List (Int × List UInt8 × Unit)} {k : Nat} (hk : k < l.length) (hc : (l.take k).all smB = true) (h : smB (l.getD k (0, [], ())) = false) : ixF l = (k : Int) := by
  unfold ixF
  rw [if_neg (by rw [take_bad hk h]; decide), takeWhile_at hk hc h]
theorem ixF_all {l : List (Int × List UInt8 × Unit)} {k : Nat} (hk : l.length ≤ k) (hc : (l.take k).all smB = true) : ixF l = -1 := by
  rw [List.take_of_length_le hk] at hc
  exact if_pos hc
theorem ixF_ge (l : List (Int × List UInt8 × Unit)) : 0 ≤ ixF l ↔ l.all smB = false := by
  unfold ixF
  split
  · rename_i h; rw [h]; constructor <;> intro g
    · omega
    · cases g
  · rename_i h; exact ⟨fun _ => by simpa using h, fun _ => by omega⟩

/-! ### columns -/
def xsL (l : List (Int × List UInt8 × Unit)) : List UInt8 := l.map fun s => pt s.1
def ysL (l : List (Int × List UInt8 × Unit)) (k : Nat) : List UInt8 := l.map fun s => s.2.1.getD k 0
theorem xsL_len (l : List (Int × List UInt8 × Unit)) : (xsL l).length = l.length := List.length_map ..
theorem ysL_len (l : List (Int × List UInt8 × Unit)) (k : Nat) : (ysL l k).length = l.length := List.length_map ..
def xF (l : List (Int × List UInt8 × Unit)) (i : Nat) : UInt8 := pt (l.getD i (0, [], ())).1
def yF (l : List (Int × List UInt8 × Unit)) (k : Nat) (i : Nat) : UInt8 := (l.getD i (0, [], ())).2.1.getD k 0
theorem range_get {α β : Type} (d : α) (f : α → β) (l : List α) : (List.range l.length).map (fun i => f (l.getD i d)) = l.map f := by
  apply List.ext_getElem
  · simp
  · intro i h1 h2
    simp at h2
    simp [List.getElem?_eq_getElem h2]
theorem xs_fill (l : List (Int × List UInt8 × Unit)) : fillF (xF l) l.length l.length = xsL l := by rw [fill_all]; exact range_get (0, [], ()) (fun s => pt s.1) l
theorem ys_fill (l : List (Int × List UInt8 × Unit)) (k : Nat) : fillF (yF l k) l.length l.length = ysL l k := by rw [fill_all]; exact range_get (0, [], ()) (fun s => s.2.1.getD k 0) l

/-! ### a splitting -/
def hsP (hs : List Int) (k : Nat) : Prop := knw (hs.getD k 0) ∧ (k = 0 ∨ hs.getD (k - 1) 0 < hs.getD k 0)
instance (hs : List Int) (k : Nat) : Decidable (hsP hs k) := by unfold hsP; infer_instance
def hsB (hs : List Int) (k : Nat) : Bool := decide (hsP hs k)
def hsOk (hs : List Int) : Bool := (List.range hs.length).all (hsB hs)
def splE (sec : List UInt8) (nd : Int) (hs : List Int) (nz : List UInt8) : Int :=
  if 4096 < sec.length then 2 else if nd < 1 ∨ 12 < nd then 3 else if (hs.length : Int) < nd then 1 else if hsOk hs = false then 1 else if (nz.length : Int) = (sec.length : Int) * (nd - 1) then 0 else 1
/-- The coefficients of a byte. -/
def cfs (nz : List UInt8) (n m k : Nat) : List UInt8 := (List.range m).map fun a => nz.getD (a * n + k) 0
def accL (nz : List UInt8) (n m : Nat) (x : UInt8) (j : Nat) : List UInt8 := (List.range n).map fun k => mulL (horner x ((cfs nz n m k).drop j)) x
def shB (sec nz : List UInt8) (m : Nat) (x : UInt8) : List UInt8 := (List.range sec.length).map fun k => horner x (sec.getD k 0 :: cfs nz sec.length m k)
def shS (sec : List UInt8) (nd : Int) (nz : List UInt8) (h : Int) : (Int × List UInt8 × Unit) := (h, shB sec nz (nd - 1).toNat (pt h), ())
def splL (sec : List UInt8) (nd : Int) (hs : List Int) (nz : List UInt8) : List (Int × List UInt8 × Unit) := if splE sec nd hs nz = 0 then hs.map (shS sec nd nz) else []
theorem spl_len (sec : List UInt8) (nd : Int) (hs : List Int) (nz : List UInt8) : (splL sec nd hs nz).length ≤ hs.length := by
  unfold splL
  split
  · rw [List.length_map]; exact Nat.le_refl _
  · exact Nat.zero_le _
theorem cfs_len (nz : List UInt8) (n m k : Nat) : (cfs nz n m k).length = m := by simp [cfs]
theorem cfs_get {nz : List UInt8} {n m k a : Nat} (h : a < m) : (cfs nz n m k).getD a 0 = nz.getD (a * n + k) 0 := by
  simp [cfs, List.getElem?_map, List.getElem?_range h]
theorem acc_len (nz : List UInt8) (n m : Nat) (x : UInt8) (j : Nat) : (accL nz n m x j).length = n := by simp [accL]
theorem shB_len (sec nz : List UInt8) (m : Nat) (x : UInt8) : (shB sec nz m x).length = sec.length := by simp [shB]
theorem map_range_get {f : Nat → UInt8} {n k : Nat} (h : k < n) : ((List.range n).map f).getD k 0 = f k := by
  simp [List.getElem?_map, List.getElem?_range h]
theorem acc_top (nz : List UInt8) (n m : Nat) (x : UInt8) : accL nz n m x m = List.replicate n 0 := by
  apply ext_get (acc_len ..) (List.length_replicate ..)
  intro k hk
  rw [accL, map_range_get hk, List.drop_of_length_le (by rw [cfs_len]; exact Nat.le_refl _), horner, zero_mul']
  simp [hk]
theorem acc_step {nz : List UInt8} {n m : Nat} {x : UInt8} {j : Nat} (hj : j < m) (hn : nz.length = n * m) {c : List UInt8} (hc : c = (nz.drop (j * n)).take n) : scaleB x (sumB (accL nz n m x (j + 1)) c) = accL nz n m x j := by
  have hle : (j + 1) * n ≤ nz.length := by rw [hn, Nat.mul_comm n m]; exact Nat.mul_le_mul_right n hj
  have hcl : c.length = n := by rw [hc, List.length_take, List.length_drop]; rw [Nat.succ_mul] at hle; omega
  have hsl : (sumB (accL nz n m x (j + 1)) c).length = n := by rw [sum_len, acc_len, hcl]; omega
  refine ext_get (by rw [scale_len, hsl]) (acc_len ..) fun k hk => ?_
  rw [scale_get (by omega), sum_get (by rw [acc_len, hcl]) (by rw [acc_len]; exact hk)]
  unfold accL
  rw [map_range_get hk, map_range_get hk, horner_drop x (cfs nz n m k) j (by rw [cfs_len]; exact hj), cfs_get hj, mul_comm' x]
  have : c.getD k 0 = nz.getD (j * n + k) 0 := by
    rw [hc, List.getD_eq_getElem?_getD, List.getD_eq_getElem?_getD, List.getElem?_take, if_pos hk, List.getElem?_drop]
  rw [this]
theorem acc_end {sec nz : List UInt8} {m : Nat} {x : UInt8} : sumB (accL nz sec.length m x 0) sec = shB sec nz m x := by
  refine ext_get (by rw [sum_len, acc_len]; omega) (shB_len ..) fun k hk => ?_
  rw [sum_get (acc_len ..) (by rw [acc_len]; exact hk)]
  unfold accL shB
  rw [map_range_get hk, map_range_get hk, List.drop_zero]
  rfl

def outL (sec : List UInt8) (nd : Int) (hs : List Int) (nz : List UInt8) (k : Nat) : List (Int × List UInt8 × Unit) := (List.range hs.length).map fun i => if i < k then shS sec nd nz (hs.getD i 0) else (0, [], ())
theorem out_len (sec : List UInt8) (nd : Int) (hs : List Int) (nz : List UInt8) (k : Nat) : (outL sec nd hs nz k).length = hs.length := by simp [outL]
theorem out_zero (sec : List UInt8) (nd : Int) (hs : List Int) (nz : List UInt8) : outL sec nd hs nz 0 = List.replicate hs.length (0, [], ()) := by
  apply List.ext_getElem
  · simp [outL]
  · intro i h1 h2; simp [outL]
theorem out_set {sec : List UInt8} {nd : Int} {hs : List Int} {nz : List UInt8} {k : Nat} (h : k < hs.length) {x : (Int × List UInt8 × Unit)} (hx : x = shS sec nd nz (hs.getD k 0)) : (outL sec nd hs nz k).set k x = outL sec nd hs nz (k + 1) := by
  subst hx
  apply List.ext_getElem
  · simp [outL]
  · intro i h1 h2
    rw [List.getElem_set]
    simp only [outL, List.getElem_map, List.getElem_range]
    by_cases e : k = i
    · subst e; simp
    · rw [if_neg e]
      by_cases g : i < k
      · rw [if_pos g, if_pos (by omega)]
      · rw [if_neg g, if_neg (by omega)]
theorem out_all {sec : List UInt8} {nd : Int} {hs : List Int} {nz : List UInt8} {k : Nat} (h : hs.length ≤ k) : outL sec nd hs nz k = hs.map (shS sec nd nz) := by
  rw [← range_get 0 (shS sec nd nz) hs]
  apply List.map_congr_left
  intro i hi
  rw [List.mem_range] at hi
  rw [if_pos (by omega)]
theorem hs_next {l : List Int} {k : Nat} (h : ∀ j, j < k → hsB l j = true) (hk : hsB l k = true) : ∀ j, j < k + 1 → hsB l j = true := fun j hj => by
  rcases Nat.lt_or_eq_of_le (Nat.le_of_lt_succ hj) with g | g
  · exact h j g
  · rw [g]; exact hk
theorem hs_all {l : List Int} {k : Nat} (h : ∀ j, j < k → hsB l j = true) (hk : l.length ≤ k) : hsOk l = true := List.all_eq_true.2 fun j hj => h j (by have := List.mem_range.1 hj; omega)
theorem hs_bad {l : List Int} {k : Nat} (h : ¬ hsP l k) (hk : k < l.length) : hsOk l = false := rangeBad hk (show hsB l k = false from decide_eq_false h)
theorem hs_get {l : List Int} (h : hsOk l = true) {k : Nat} (hk : k < l.length) : knw (l.getD k 0) ∧ (k = 0 ∨ l.getD (k - 1) 0 < l.getD k 0) := of_decide_eq_true (List.all_eq_true.1 h k (List.mem_range.2 hk))
theorem hs_yes {l : List Int} {k : Nat} (h1 : knw (l.getD k 0)) (h2 : k = 0 ∨ ¬ l.getD k 0 ≤ l.getD ((k : Int) - 1).toNat 0) : hsB l k = true := by
  refine decide_eq_true ⟨h1, ?_⟩
  rcases h2 with h | h
  · exact .inl h
  · rw [show ((k : Int) - 1).toNat = k - 1 by omega] at h; exact .inr (by omega)
theorem mul_bd {a b : Int} {A B : Nat} (ha : 0 ≤ a) (hA : a ≤ A) (hb : 0 ≤ b) (hB : b ≤ B) : 0 ≤ a * b ∧ a * b ≤ ((A * B : Nat) : Int) := by
  obtain ⟨x, rfl⟩ := Int.eq_ofNat_of_zero_le ha
  obtain ⟨y, rfl⟩ := Int.eq_ofNat_of_zero_le hb
  have := Nat.mul_le_mul (Int.ofNat_le.1 hA) (Int.ofNat_le.1 hB)
  rw [← Int.natCast_mul]
  exact ⟨Int.natCast_nonneg _, Int.ofNat_le.2 this⟩

/-! ### what joins -/
def jnE (l : List (Int × List UInt8 × Unit)) (nd : Int) : Int := if (l.length : Int) < nd then 29 else if (List.range (lnS l)).all (fun k => decide ((tpL (xsL l) (ysL l k) (nd - 1)).2 = 0)) = true then 0 else 14
def jnK (l : List (Int × List UInt8 × Unit)) (nd : Int) (x : UInt8) (k : Nat) : List UInt8 := (List.range k).map fun i => horner x (tpL (xsL l) (ysL l i) (nd - 1)).1
def jnS (l : List (Int × List UInt8 × Unit)) (nd : Int) (x : UInt8) : List UInt8 := if jnE l nd = 0 then jnK l nd x (lnS l) else []
theorem jnK_len (l : List (Int × List UInt8 × Unit)) (nd : Int) (x : UInt8) (k : Nat) : (jnK l nd x k).length = k := by simp [jnK]
theorem jnK_snoc (l : List (Int × List UInt8 × Unit)) (nd : Int) (x : UInt8) (k : Nat) : jnK l nd x (k + 1) = jnK l nd x k ++ [horner x (tpL (xsL l) (ysL l k) (nd - 1)).1] := by unfold jnK; rw [List.range_succ, List.map_append]; rfl
theorem jnS_len {l : List (Int × List UInt8 × Unit)} {nd : Int} {x : UInt8} : (jnS l nd x).length ≤ lnS l := by
  unfold jnS
  split
  · rw [jnK_len]; exact Nat.le_refl _
  · simp
def rdE (l : List (Int × List UInt8 × Unit)) (nd : Int) : Int := if chkE l = 0 then (if nd < 1 ∨ 12 < nd then 3 else 0) else chkE l
theorem rd0 {l : List (Int × List UInt8 × Unit)} {nd : Int} (h : rdE l nd = 0) : chkE l = 0 ∧ 1 ≤ nd ∧ nd ≤ 12 := by
  unfold rdE at h
  split at h
  · rename_i h1
    split at h
    · cases h
    · exact ⟨h1, by omega, by omega⟩
  · rename_i h1; exact absurd h h1
def joE (l : List (Int × List UInt8 × Unit)) (nd : Int) : Int := if rdE l nd = 0 then jnE l nd else rdE l nd
def joS (l : List (Int × List UInt8 × Unit)) (nd : Int) (x : UInt8) : List UInt8 := if rdE l nd = 0 then jnS l nd x else []
def exE (l : List (Int × List UInt8 × Unit)) (nd h : Int) : Int := if rdE l nd = 0 then (if knw h then jnE l nd else 1) else rdE l nd
def exH (l : List (Int × List UInt8 × Unit)) (nd h : Int) : Int := if exE l nd h = 0 then h else 0
def exS (l : List (Int × List UInt8 × Unit)) (nd h : Int) : List UInt8 := if exE l nd h = 0 then jnS l nd (pt h) else []
def ftN (l : List (Int × List UInt8 × Unit)) (nd : Int) (s : List UInt8) : Int := if rdE l nd = 0 ∧ s.length ≤ 4096 ∧ (l.length = 0 ∨ lnS l = s.length) ∧ 0 ≤ nd - 1 - (l.length : Int) then (nd - 1 - (l.length : Int)) * (s.length : Int) else 0
def ftP (l : List (Int × List UInt8 × Unit)) (nd : Int) (s : List UInt8) : Prop := rdE l nd = 0 ∧ s.length ≤ 4096 ∧ (l.length = 0 ∨ lnS l = s.length) ∧ (0 ≤ nd - 1 - (l.length : Int) ∨ (jnE l nd = 0 ∧ jnS l nd 0 = s))
instance (l : List (Int × List UInt8 × Unit)) (nd : Int) (s : List UInt8) : Decidable (ftP l nd s) := by unfold ftP; infer_instance
def adE (a b : (Int × List UInt8 × Unit)) : Int := if chkE [a] = 0 then (if chkE [b] = 0 then (if a.1 = b.1 ∧ a.2.1.length = b.2.1.length then 0 else 1) else chkE [b]) else chkE [a]
def adH (a b : (Int × List UInt8 × Unit)) : Int := if adE a b = 0 then a.1 else 0
def adS (a b : (Int × List UInt8 × Unit)) : List UInt8 := if adE a b = 0 then sumB a.2.1 b.2.1 else []

theorem jn29 {l : List (Int × List UInt8 × Unit)} {nd : Int} (h : (l.length : Int) < nd) : jnE l nd = 29 := if_pos h
theorem jn14 {l : List (Int × List UInt8 × Unit)} {nd : Int} (h : ¬ (l.length : Int) < nd) {k : Nat} (hk : k < lnS l) (hb : (tpL (xsL l) (ysL l k) (nd - 1)).2 ≠ 0) : jnE l nd = 14 := by
  unfold jnE
  rw [if_neg h, if_neg]
  rw [rangeBad hk (decide_eq_false hb)]
  decide
theorem jn0 {l : List (Int × List UInt8 × Unit)} {nd : Int} (h : ¬ (l.length : Int) < nd) (ha : ∀ k, k < lnS l → (tpL (xsL l) (ysL l k) (nd - 1)).2 = 0) : jnE l nd = 0 := by
  unfold jnE
  rw [if_neg h, if_pos (List.all_eq_true.2 fun k hk => decide_eq_true (ha k (List.mem_range.1 hk)))]
theorem jn0' {l : List (Int × List UInt8 × Unit)} {nd : Int} (h : jnE l nd = 0) : nd ≤ (l.length : Int) ∧ ∀ k, k < lnS l → (tpL (xsL l) (ysL l k) (nd - 1)).2 = 0 := by
  unfold jnE at h
  split at h
  · cases h
  · rename_i h1
    split at h
    · rename_i h2
      exact ⟨by omega, fun k hk => of_decide_eq_true (List.all_eq_true.1 h2 k (List.mem_range.2 hk))⟩
    · cases h
theorem jnS0 {l : List (Int × List UInt8 × Unit)} {nd : Int} {x : UInt8} (h : jnE l nd = 0) : jnS l nd x = jnK l nd x (lnS l) := if_pos h
theorem jnSn {l : List (Int × List UInt8 × Unit)} {nd : Int} {x : UInt8} (h : jnE l nd ≠ 0) : jnS l nd x = [] := if_neg h
theorem up_next {P : Nat → Prop} {k : Nat} (h : ∀ j, j < k → P j) (hk : P k) : ∀ j, j < k + 1 → P j := fun j hj => by
  rcases Nat.lt_or_eq_of_le (Nat.le_of_lt_succ hj) with g | g
  · exact h j g
  · rw [g]; exact hk

/-! ### what corrects -/
def dcK (l : List (Int × List UInt8 × Unit)) (nd w : Int) (k : Nat) : List UInt8 × List Int × Int := decT (xsL l) (ysL l k) (nd - 1) w
def putA (l : List (Int × List UInt8 × Unit)) (o : List (Int × Bool)) (at' : List Int) : List (Int × Bool) := at'.foldl (fun o i => mput o (l.getD i.toNat (0, [], ())).1 true) o
def oddK (l : List (Int × List UInt8 × Unit)) (nd w : Int) : Nat → List (Int × Bool)
  | 0 => []
  | k + 1 => putA l (oddK l nd w k) (dcK l nd w k).2.1
def rbK (l : List (Int × List UInt8 × Unit)) (nd w : Int) (k : Nat) : List UInt8 := (List.range k).map fun i => horner 0 (dcK l nd w i).1
def rbE (l : List (Int × List UInt8 × Unit)) (nd w : Int) : Int :=
  if rdE l nd = 0 then (if w < 0 then 3 else if (l.length : Int) < w ∨ (l.length : Int) < nd + 2 * w then 29 else if (List.range (lnS l)).all (fun k => decide ((dcK l nd w k).2.2 = 0)) = true then (if w < ((oddK l nd w (lnS l)).length : Int) then 17 else 0) else 17) else rdE l nd
def rbS (l : List (Int × List UInt8 × Unit)) (nd w : Int) : List UInt8 := if rbE l nd w = 0 then rbK l nd w (lnS l) else []
def rbH (l : List (Int × List UInt8 × Unit)) (nd w : Int) : List Int := if rbE l nd w = 0 then sortK ((oddK l nd w (lnS l)).map (·.1)) else []
theorem rbK_len (l : List (Int × List UInt8 × Unit)) (nd w : Int) (k : Nat) : (rbK l nd w k).length = k := by simp [rbK]
theorem rbK_snoc (l : List (Int × List UInt8 × Unit)) (nd w : Int) (k : Nat) : rbK l nd w (k + 1) = rbK l nd w k ++ [horner 0 (dcK l nd w k).1] := by unfold rbK; rw [List.range_succ, List.map_append]; rfl
theorem putA_snoc (l : List (Int × List UInt8 × Unit)) (o : List (Int × Bool)) (a : List Int) (i : Nat) (h : i < a.length) : putA l o (a.take (i + 1)) = mput (putA l o (a.take i)) (l.getD (a.getD i 0).toNat (0, [], ())).1 true := by
  rw [takeD 0 a i h]; unfold putA; rw [List.foldl_append]; rfl
theorem mput_len {α : Type} (n : Int) (x : α) : ∀ es : List (Int × α), (mput es n x).length ≤ es.length + 1
  | [] => by simp [mput]
  | (m, y) :: l => by
    unfold mput
    split
    · simp
    · have := mput_len n x l; simp; omega
theorem putA_len (l : List (Int × List UInt8 × Unit)) : ∀ (a : List Int) (o : List (Int × Bool)), (putA l o a).length ≤ o.length + a.length
  | [], o => by simp [putA]
  | i :: a, o => by
    have h1 := putA_len l a (mput o (l.getD i.toNat (0, [], ())).1 true)
    have h2 := mput_len (l.getD i.toNat (0, [], ())).1 true o
    show (putA l (mput o (l.getD i.toNat (0, [], ())).1 true) a).length ≤ o.length + (a.length + 1)
    omega
/-- The places that are named. -/
theorem miss_len (p xs ys : List UInt8) : ∀ n, (missA p xs ys n).length ≤ n
  | 0 => Nat.le_refl _
  | k + 1 => by
    have := miss_len p xs ys k
    unfold missA
    split
    · rw [List.length_append, List.length_cons, List.length_nil]; omega
    · omega
theorem miss_at (p xs ys : List UInt8) : ∀ n, ∀ i ∈ missA p xs ys n, 0 ≤ i ∧ i < (n : Int)
  | 0, i, h => by simp [missA] at h
  | k + 1, i, h => by
    unfold missA at h
    split at h
    · rcases List.mem_append.1 h with h | h
      · have := miss_at p xs ys k i h; omega
      · simp at h; omega
    · have := miss_at p xs ys k i h; omega
theorem decT_cases (xs ys : List UInt8) (hx : xs.length ≤ 10000) (d w : Int) : (∃ e, decT xs ys d w = ([], [], e) ∧ e ≠ 0) ∨ ∃ p, decT xs ys d w = (p, missA p xs ys xs.length, 0) ∧ trimL p = p ∧ degL p ≤ d ∧ ((missA p xs ys xs.length).length : Int) ≤ w ∧ rightP xs ys := by
  unfold decT
  by_cases hr : rightP xs ys
  · by_cases hc : decOk xs d w
    · rcases dec_sound xs ys hr hx d w hc with h | ⟨p, h, h1, h2, h3⟩
      · left; rw [h]; exact ⟨17, rfl, by decide⟩
      · right; rw [h]; exact ⟨p, rfl, h1, h2, h3, hr⟩
    · left
      unfold decOk at hc
      unfold decL
      rw [if_pos hr, if_pos (Classical.not_not.1 hc)]
      exact ⟨_, rfl, by decide⟩
  · left
    unfold decL
    rw [if_neg hr]
    exact ⟨_, rfl, by decide⟩
theorem dec_isSome (xs ys : List UInt8) (hx : xs.length ≤ 10000) (d w : Int) : (decL xs ys d w).isSome = true := by
  by_cases hr : rightP xs ys
  · by_cases hc : decOk xs d w
    · rcases dec_sound xs ys hr hx d w hc with h | ⟨p, h, _⟩ <;> rw [h] <;> rfl
    · unfold decOk at hc
      unfold decL
      rw [if_pos hr, if_pos (Classical.not_not.1 hc)]
      rfl
  · unfold decL
    rw [if_neg hr]
    rfl
theorem decT_at {xs ys : List UInt8} (hx : xs.length ≤ 10000) (d w : Int) : (decT xs ys d w).2.1.length ≤ xs.length ∧ ∀ i ∈ (decT xs ys d w).2.1, 0 ≤ i ∧ i < (xs.length : Int) := by
  rcases decT_cases xs ys hx d w with ⟨e, h, _⟩ | ⟨p, h, _⟩
  · rw [h]; simp
  · rw [h]; exact ⟨miss_len _ _ _ _, miss_at _ _ _ _⟩
theorem decT_plen {xs ys : List UInt8} (hx : xs.length ≤ 10000) (d w : Int) (hd : d ≤ 10000) : (decT xs ys d w).1.length ≤ 10001 := by
  rcases decT_cases xs ys hx d w with ⟨e, h, _⟩ | ⟨p, h, h1, h2, _⟩
  · rw [h]; simp
  · rw [h]
    show p.length ≤ _
    rw [degL_sz, sz_eq_len h1] at h2
    omega
theorem odd_len {l : List (Int × List UInt8 × Unit)} {nd w : Int} (hl : l.length ≤ 12) : ∀ k, (oddK l nd w k).length ≤ 12 * k
  | 0 => Nat.le_refl _
  | k + 1 => by
    have h1 := odd_len (nd := nd) (w := w) hl k
    have h2 := putA_len l (dcK l nd w k).2.1 (oddK l nd w k)
    have h3 := (decT_at (xs := xsL l) (ys := ysL l k) (by rw [xsL_len]; omega) (nd - 1) w).1
    rw [xsL_len] at h3
    show (putA l (oddK l nd w k) (dcK l nd w k).2.1).length ≤ _
    unfold dcK at h2 ⊢
    omega
theorem rb17 {l : List (Int × List UInt8 × Unit)} {nd w : Int} (r : rdE l nd = 0) (h1 : ¬ w < 0) (h2 : ¬ (l.length : Int) < w) (h3 : ¬ (l.length : Int) < nd + 2 * w) {k : Nat} (hk : k < lnS l) (h : (dcK l nd w k).2.2 ≠ 0) : rbE l nd w = 17 := by
  unfold rbE
  rw [if_pos r, if_neg h1, if_neg (by omega), if_neg]
  rw [rangeBad hk (decide_eq_false h)]
  decide
theorem rb0 {l : List (Int × List UInt8 × Unit)} {nd w : Int} (r : rdE l nd = 0) (h1 : ¬ w < 0) (h2 : ¬ (l.length : Int) < w) (h3 : ¬ (l.length : Int) < nd + 2 * w) (ha : ∀ k, k < lnS l → (dcK l nd w k).2.2 = 0) : rbE l nd w = if w < ((oddK l nd w (lnS l)).length : Int) then 17 else 0 := by
  unfold rbE
  rw [if_pos r, if_neg h1, if_neg (by omega), if_pos (List.all_eq_true.2 fun k hk => decide_eq_true (ha k (List.mem_range.1 hk)))]
theorem rbn {l : List (Int × List UInt8 × Unit)} {nd w : Int} (h : rbE l nd w ≠ 0) : rbS l nd w = [] ∧ rbH l nd w = [] := ⟨if_neg h, if_neg h⟩
theorem rby {l : List (Int × List UInt8 × Unit)} {nd w : Int} (h : rbE l nd w = 0) : rbS l nd w = rbK l nd w (lnS l) ∧ rbH l nd w = sortK ((oddK l nd w (lnS l)).map (·.1)) := ⟨if_pos h, if_pos h⟩
end Go.Proofs.YtakbedmeieeekaaDoor.S26

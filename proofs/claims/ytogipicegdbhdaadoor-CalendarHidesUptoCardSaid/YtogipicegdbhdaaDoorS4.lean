/- Texts of this claim: S41.CPb, S41.CA1, S41.CPc, S41.CA2. -/
import Derived.Test.YtogipicegdbhdaaDoorS3
set_option linter.unusedVariables false
set_option linter.unusedSimpArgs false
namespace Go.Proofs.YtogipicegdbhdaaDoor.S41c
open Go

def idxF (v : Int) : List Int → Int → Int
 | [], _ => -1
 | x :: t, k => if v = x then k else idxF v t (k + 1)
theorem idxF_mem (v : Int) : ∀ (l : List Int) (k : Int), 0 ≤ k → (0 ≤ idxF v l k ↔ v ∈ l)
 | [], k, _ => by simp [idxF]
 | x :: t, k, h => by
  unfold idxF
  split
  ·rename_i e; subst e; simp [h]
  ·rename_i e
   rw [idxF_mem v t (k + 1) (by omega)]
   simp [e]

abbrev Cp := Int × Int × Unit
def capB (x : Cp) : Bool := decide (0 ≤ x.1 ∧ x.1 ≤ 11 ∧ 0 ≤ x.2.1 ∧ x.2.1 ≤ 1000000)
def capL (l : List Cp) : Int := if 500 < l.length then 2 else if l.all capB = true then 0 else 3
theorem cap0 {l : List Cp} (h : capL l = 0) : l.length ≤ 500 ∧ ∀ x ∈ l, capB x = true := by
 unfold capL at h
 split at h
 ·omega
 ·split at h
  ·rename_i h1 h2; exact ⟨by omega, by simpa using h2⟩
  ·omega
theorem cap0' {l : List Cp} (h : l.length ≤ 500) (h2 : ∀ x ∈ l, capB x = true) : capL l = 0 := by
 unfold capL
 rw [if_neg (by omega), if_pos (by simpa using h2)]
theorem capB_ok {x : Cp} (h : capB x = true) : 0 ≤ x.1 ∧ x.1 ≤ 11 ∧ 0 ≤ x.2.1 ∧ x.2.1 ≤ 1000000 := by simpa [capB] using h

theorem capB_no {x : Cp} (h : ¬ (0 ≤ x.1 ∧ x.1 ≤ 11 ∧ 0 ≤ x.2.1 ∧ x.2.1 ≤ 1000000)) : capB x = false := decide_eq_false h
theorem capB_yes {x : Cp} (h : 0 ≤ x.1 ∧ x.1 ≤ 11 ∧ 0 ≤ x.2.1 ∧ x.2.1 ≤ 1000000) : capB x = true := decide_eq_true h
theorem all_bad {α : Type} {d : α} {p : α → Bool} {l : List α} {k : Nat} (hk : k < l.length) (hc : (l.drop k).all p = l.all p) (h : p (l.getD k d) = false) : l.all p = false := by
 rw [← hc, drop_one d l k hk, List.all_cons, h, Bool.false_and]
theorem all_next {α : Type} {d : α} {p : α → Bool} {l : List α} {k : Nat} (hk : k < l.length) (hc : (l.drop k).all p = l.all p) (h : p (l.getD k d) = true) : (l.drop (k + 1)).all p = l.all p := by
 rw [← hc, drop_one d l k hk, List.all_cons, h, Bool.true_and]
theorem all_end {α : Type} {p : α → Bool} {l : List α} {k : Nat} (hk : l.length ≤ k) (hc : (l.drop k).all p = l.all p) : l.all p = true := by
 rw [← hc, List.drop_eq_nil_of_le hk]; rfl

/-! ### periods that are exposed at a tick -/
def exB (b l d t q : Int) : Bool := decide (expF b d q ≤ t ∧ t ≤ expT b l d q)
def atG (b l d t : Int) : Nat → Int → List Int
 | 0, _ => []
 | f + 1, q => if exB b l d t q = true then q :: atG b l d t f (q + 1) else atG b l d t f (q + 1)
def atL (b l d t : Int) : List Int := atG b l d t (cntL b l d).toNat 0
theorem atG_mem (b l d t : Int) : ∀ (f : Nat) (q x : Int), x ∈ atG b l d t f q ↔ q ≤ x ∧ x < q + f ∧ exB b l d t x = true
 | 0, q, x => by simp [atG]; omega
 | f + 1, q, x => by
  unfold atG
  split
  ·rename_i h
   rw [List.mem_cons, atG_mem b l d t f (q + 1) x]
   constructor
   ·rintro (rfl | ⟨h1, h2, h3⟩)
    ·exact ⟨by omega, by omega, h⟩
    ·exact ⟨by omega, by omega, h3⟩
   ·rintro ⟨h1, h2, h3⟩
    by_cases e : x = q
    ·exact .inl e
    ·exact .inr ⟨by omega, by omega, h3⟩
  ·rename_i h
   rw [atG_mem b l d t f (q + 1) x]
   constructor
   ·rintro ⟨h1, h2, h3⟩; exact ⟨by omega, by omega, h3⟩
   ·rintro ⟨h1, h2, h3⟩
    refine ⟨?_, by omega, h3⟩
    by_cases e : x = q
    ·subst e; exact absurd h3 h
    ·omega
theorem atG_skip (b l d t : Int) : ∀ (j f : Nat) (q : Int), (∀ x, q ≤ x → x < q + j → exB b l d t x = false) → atG b l d t (f + j) q = atG b l d t f (q + j)
 | 0, f, q, _ => by simp
 | j + 1, f, q, h => by
  rw [show f + (j + 1) = (f + j) + 1 by omega, atG, if_neg (by rw [h q (by omega) (by omega)]; simp), atG_skip b l d t j f (q + 1) fun x h1 h2 => h x (by omega) (by omega)]
  congr 1; omega
theorem atG_nil (b l d t : Int) (f : Nat) (q : Int) (h : ∀ x, q ≤ x → x < q + f → exB b l d t x = false) : atG b l d t f q = [] := by
 cases e : atG b l d t f q with
 | nil => rfl
 | cons x r =>
  have := (atG_mem b l d t f q x).1 (by rw [e]; simp)
  rw [h x this.1 this.2.1] at this
  simp at this
theorem max_tdiv (a d : Int) (hd : 0 < d) : max 0 (Int.tdiv a d) = if 0 ≤ a then a / d else 0 := by
 split
 ·rename_i h
  rw [Int.tdiv_eq_ediv_of_nonneg h]
  have := Int.ediv_nonneg h (by omega : 0 ≤ d)
  omega
 ·rename_i h
  have : a.tdiv d = -((-a) / d) := by rw [Go.tdiv_eq_if, if_neg (by omega)]
  have := Int.ediv_nonneg (a := -a) (b := d) (by omega) (by omega)
  omega
theorem at_early {b l d t : Int} (hd : 1 ≤ d) {x : Int} (h1 : x < max 0 (Int.tdiv (t - 2 - b) d)) (h0 : 0 ≤ x) : exB b l d t x = false := by
 rw [max_tdiv _ _ (by omega)] at h1
 split at h1
 ·rename_i h2
  have h3 : x + 1 ≤ (t - 2 - b) / d := by omega
  have h4 := Int.mul_le_mul_of_nonneg_right h3 (by omega : 0 ≤ d)
  have h5 := Int.ediv_mul_le (t - 2 - b) (b := d) (by omega)
  have h6 : (x + 1) * d = x * d + d := by rw [Int.add_mul, Int.one_mul]
  apply decide_eq_false
  unfold expT
  omega
 ·omega
theorem expF_mono {b d q x : Int} (hd : 1 ≤ d) (h : q ≤ x) : expF b d q ≤ expF b d x := by
 unfold expF
 have := Int.mul_le_mul_of_nonneg_right (by omega : max 0 (q - 1) ≤ max 0 (x - 1)) (by omega : 0 ≤ d)
 omega
theorem at_late {b l d t q : Int} (hd : 1 ≤ d) (h : t < expF b d q) {x : Int} (hx : q ≤ x) : exB b l d t x = false := by
 have := expF_mono (b := b) hd hx
 apply decide_eq_false
 omega
theorem at_start {b l d t : Int} (hd : 1 ≤ d) (hc : 0 ≤ cntL b l d) : atL b l d t = atG b l d t (cntL b l d - max 0 (Int.tdiv (t - 2 - b) d)).toNat (max 0 (Int.tdiv (t - 2 - b) d)) := by
 obtain ⟨q0, hq⟩ : ∃ q0 : Nat, max 0 (Int.tdiv (t - 2 - b) d) = (q0 : Int) := ⟨(max 0 (Int.tdiv (t - 2 - b) d)).toNat, by omega⟩
 have he : ∀ x : Int, 0 ≤ x → x < q0 → exB b l d t x = false := fun x h0 h1 => at_early hd (by omega) h0
 rw [hq]
 unfold atL
 rcases Nat.le_total q0 (cntL b l d).toNat with h | h
 ·rw [show (cntL b l d).toNat = (cntL b l d - q0).toNat + q0 by omega, atG_skip _ _ _ _ q0 _ 0 fun x h1 h2 => he x h1 (by omega)]
  congr 1
  omega
 ·rw [show (cntL b l d - (q0 : Int)).toNat = 0 by omega, atG_nil _ _ _ _ _ 0 fun x h1 h2 => he x h1 (by omega)]
  rfl

theorem drop_cons {α : Type} {l r : List α} {x d : α} {k : Nat} (h : l.drop k = x :: r) : k < l.length ∧ l.getD k d = x ∧ l.drop (k + 1) = r := by
 have hk : k < l.length := by
  rcases Nat.lt_or_ge k l.length with g | g
  ·exact g
  ·rw [List.drop_eq_nil_of_le g] at h; cases h
 rw [drop_one d l k hk] at h
 injection h with h1 h2
 exact ⟨hk, h1, h2⟩
theorem drop_nil {α : Type} {l : List α} {k : Nat} (hk : k ≤ l.length) (h : l.drop k = []) : k = l.length := by
 have := List.drop_eq_nil_iff.1 h; omega

theorem getD_mem {α : Type} (d : α) (l : List α) (k : Nat) (h : k < l.length) : l.getD k d ∈ l := by
 simp [List.getD_eq_getElem?_getD, h]
theorem atL_at {b l d t : Int} {n : Nat} (hc : 0 ≤ cntL b l d) (h : n < (atL b l d t).length) : 0 ≤ (atL b l d t).getD n 0 ∧ (atL b l d t).getD n 0 < cntL b l d ∧ exB b l d t ((atL b l d t).getD n 0) = true := by
 have := (atG_mem b l d t (cntL b l d).toNat 0 _).1 (getD_mem 0 (atL b l d t) n h)
 exact ⟨this.1, by have := this.2.1; omega, this.2.2⟩
theorem hsF_at : ∀ (l : List Int) (p : Int) (k : Nat), hsF p l = true → k < l.length → 0 ≤ l.getD k 0 ∧ l.getD k 0 ≤ 11
 | [], p, k, _, hk => by simp at hk
 | h :: t, p, 0, hh, hk => by
  simp only [hsF, Bool.and_eq_true, decide_eq_true_eq] at hh
  exact ⟨hh.1.1, hh.1.2.1⟩
 | h :: t, p, k + 1, hh, hk => by
  simp only [hsF, Bool.and_eq_true, decide_eq_true_eq] at hh
  have := hsF_at t h k hh.2 (by simpa using hk)
  simpa using this
theorem sh_nonneg {a : Int} (h : 0 ≤ a) (n : Nat) : 0 ≤ a / 2 ^ n := Int.ediv_nonneg h (Int.pow_nonneg (by omega))

/-! ### houses that are known in the periods -/
def mk (N : Nat) (F : Nat → Nat → Bool) : List (List Bool) := (List.range N).map fun q => (List.range 12).map (F q)
theorem mk_len (N F) : (mk N F).length = N := by simp [mk]
theorem mk_get {N : Nat} {F : Nat → Nat → Bool} {q : Nat} (h : q < N) (e : List Bool) : (mk N F).getD q e = (List.range 12).map (F q) := by
 simp [mk, List.getD_eq_getElem?_getD, h]
theorem row_get {f : Nat → Bool} {h : Nat} (hh : h < 12) (e : Bool) : ((List.range 12).map f).getD h e = f h := by
 simp [List.getD_eq_getElem?_getD, hh]
theorem mk_congr {N : Nat} {F G : Nat → Nat → Bool} (h : ∀ q h, q < N → h < 12 → F q h = G q h) : mk N F = mk N G := by
 apply List.map_congr_left
 intro q hq
 apply List.map_congr_left
 intro k hk
 exact h q k (by simpa using hq) (by simpa using hk)
theorem row_set (f : Nat → Bool) (h : Nat) (v : Bool) : ((List.range 12).map f).set h v = (List.range 12).map fun x => if x = h then v else f x := by
 apply List.ext_getElem (by simp)
 intro i h1 h2
 simp only [List.getElem_set, List.getElem_map, List.getElem_range]
 by_cases e : h = i
 ·subst e; simp
 ·rw [if_neg e, if_neg (fun x => e x.symm)]
theorem mk_set {N : Nat} {F : Nat → Nat → Bool} {q : Nat} (hq : q < N) (h : Nat) (v : Bool) (e : List Bool) :
  (mk N F).set q (((mk N F).getD q e).set h v) = mk N fun x y => if x = q ∧ y = h then v else F x y := by
 rw [mk_get hq, row_set]
 apply List.ext_getElem (by simp [mk])
 intro i h1 h2
 simp only [mk, List.getElem_set, List.getElem_map, List.getElem_range]
 by_cases e : q = i
 ·subst e
  rw [if_pos rfl]
  apply List.map_congr_left
  intro y hy
  by_cases e2 : y = h
  ·simp [e2]
  ·simp [e2]
 ·rw [if_neg e]
  apply List.map_congr_left
  intro y hy
  rw [if_neg (fun x => e x.1.symm)]
theorem mk_zero (N : Nat) : List.replicate N (List.replicate 12 false) = mk N fun _ _ => false := by
 apply List.ext_getElem (by simp [mk])
 intro i h1 h2
 simp only [mk, List.getElem_replicate, List.getElem_map, List.getElem_range]
 rfl

def bitB (bad : Int) (h : Nat) : Bool := decide (bad / 2 ^ h % 2 = 1)
theorem bit_and (x : Int) (h : 0 ≤ x) : ((x.toNat &&& (1 : Int).toNat : Nat) : Int) = x % 2 := by
 have : x.toNat &&& 1 = x.toNat % 2 := Nat.and_one_is_mod _
 rw [show (1 : Int).toNat = 1 from rfl, this]; omega
theorem bit_store {bad : Int} (h0 : 0 ≤ bad) (h : Int) : (@decide ((((bad / 2 ^ h.toNat).toNat &&& (1 : Int).toNat : Nat) : Int) = 1) (Classical.propDecidable _)) = bitB bad h.toNat := by
 have e := bit_and (bad / 2 ^ h.toNat) (Int.ediv_nonneg h0 (by exact_mod_cast Nat.zero_le _))
 unfold bitB
 rw [← e]
 congr

/-- after the first i periods, and the first k houses of the next one -/
def seenA (hs : List Int) (bad : Int) (i k : Nat) (q h : Nat) : Bool := (decide (q < i) && hs.contains (h : Int) || decide (q = i) && (hs.take k).contains (h : Int)) && bitB bad h
def capIn (b l d : Int) (q h : Nat) (x : Cp) : Bool := decide (x.1 = h) && exB b l d x.2.1 q
def seenC (b l d : Int) (hs : List Int) (bad : Int) (caps : List Cp) (q h : Nat) : Bool := hs.contains (h : Int) && (bitB bad h || caps.any (capIn b l d q h))

theorem seenA_zero (hs bad N) : mk N (seenA hs bad 0 0) = mk N fun _ _ => false := mk_congr fun q h _ _ => by simp [seenA]
theorem contains_take (hs : List Int) (k : Nat) (hk : k < hs.length) (x : Int) : (hs.take (k + 1)).contains x = ((hs.take k).contains x || decide (x = hs.getD k 0)) := by
 rw [take_snoc 0 hs k hk]
 simp [Bool.eq_iff_iff]
theorem seenA_step {hs : List Int} {bad : Int} {N i k : Nat} (hk : k < hs.length) (h0 : 0 ≤ hs.getD k 0) (h1 : hs.getD k 0 ≤ 11) (hi : i < N) (e : List Bool) :
  (mk N (seenA hs bad i k)).set i (((mk N (seenA hs bad i k)).getD i e).set ((hs.getD k 0).toNat * 1) (bitB bad (hs.getD k 0).toNat)) = mk N (seenA hs bad i (k + 1)) := by
 rw [Nat.mul_one, mk_set hi]
 refine mk_congr fun q h hq hh => ?_
 unfold seenA
 rw [contains_take hs k hk]
 by_cases e1 : q = i
 ·subst e1
  by_cases e2 : h = (hs.getD k 0).toNat
  ·have e3 : (h : Int) = hs.getD k 0 := by omega
   have e4 : (h : Int) = hs.getD k 0 := e3
   rw [if_pos ⟨rfl, e2⟩, ← e2]
   generalize hs.getD k 0 = y at e4 ⊢
   simp [e4]
  ·have e3 : ¬ (h : Int) = hs.getD k 0 := by omega
   rw [if_neg (fun x => e2 x.2)]
   generalize hs.getD k 0 = y at e3 ⊢
   simp [e3]
 ·rw [if_neg (fun x => e1 x.1)]
  simp [e1]
theorem seenA_next (hs bad N i) : mk N (seenA hs bad i hs.length) = mk N (seenA hs bad (i + 1) 0) := mk_congr fun q h _ _ => by
 unfold seenA
 rw [List.take_length, List.take_zero, Bool.eq_iff_iff]
 simp only [Bool.and_eq_true, Bool.or_eq_true, decide_eq_true_eq]
 constructor
 ·rintro ⟨h | h, h2⟩
  ·exact ⟨.inl ⟨by omega, h.2⟩, h2⟩
  ·exact ⟨.inl ⟨by omega, h.2⟩, h2⟩
 ·rintro ⟨h | h, h2⟩
  ·by_cases e : q = i
   ·exact ⟨.inr ⟨e, h.2⟩, h2⟩
   ·exact ⟨.inl ⟨by omega, h.2⟩, h2⟩
  ·simp at h
theorem seenA_end (b l d hs bad N) : mk N (seenA hs bad N 0) = mk N (seenC b l d hs bad []) := mk_congr fun q h hq _ => by
 simp [seenA, seenC, hq, Nat.ne_of_lt hq]

theorem seenC_skip {b l d : Int} {hs : List Int} {bad : Int} {caps : List Cp} {N k : Nat} (hk : k < caps.length) (h : ¬ (caps.getD k (0, 0, ())).1 ∈ hs) : mk N (seenC b l d hs bad (caps.take k)) = mk N (seenC b l d hs bad (caps.take (k + 1))) :=
 mk_congr fun q x _ _ => by
  rw [take_snoc (0, 0, ()) caps k hk]
  unfold seenC
  rw [List.any_append]
  by_cases e : (caps.getD k (0, 0, ())).1 = (x : Int)
  ·have : hs.contains (x : Int) = false := by rw [← e]; simpa using h
   rw [this]; simp
  ·generalize caps.getD k (0, 0, ()) = y at e ⊢
   simp [capIn, e]
/-- in the midst of the periods of a capture -/
def seenR (b l d : Int) (hs : List Int) (bad : Int) (caps : List Cp) (x : Cp) (n : Nat) (q h : Nat) : Bool := seenC b l d hs bad caps q h || decide (x.1 = h) && ((atL b l d x.2.1).take n).contains (q : Int)
theorem seenR_zero (b l d hs bad caps x N) : mk N (seenR b l d hs bad caps x 0) = mk N (seenC b l d hs bad caps) := mk_congr fun q h _ _ => by simp [seenR]
theorem seenR_step {b l d : Int} {hs : List Int} {bad : Int} {caps : List Cp} {x : Cp} {n N : Nat} {v : Bool} (hv : v = true) (hx : x.1 ∈ hs) (h0 : 0 ≤ x.1) (h1 : x.1 ≤ 11) (hn : n < (atL b l d x.2.1).length) (hq0 : 0 ≤ (atL b l d x.2.1).getD n 0) (hq1 : ((atL b l d x.2.1).getD n 0).toNat < N) (e : List Bool) :
  (mk N (seenR b l d hs bad caps x n)).set ((atL b l d x.2.1).getD n 0).toNat (((mk N (seenR b l d hs bad caps x n)).getD ((atL b l d x.2.1).getD n 0).toNat e).set (x.1.toNat * 1) v) = mk N (seenR b l d hs bad caps x (n + 1)) := by
 subst hv
 rw [Nat.mul_one, mk_set hq1]
 refine mk_congr fun q h hq hh => ?_
 unfold seenR
 rw [contains_take _ n hn]
 by_cases e1 : q = ((atL b l d x.2.1).getD n 0).toNat
 ·have e3 : (q : Int) = (atL b l d x.2.1).getD n 0 := by omega
  by_cases e2 : h = x.1.toNat
  ·have e4 : x.1 = (h : Int) := by omega
   rw [if_pos ⟨e1, e2⟩]
   simp [e4, e3]
  ·have e4 : ¬ x.1 = (h : Int) := by omega
   rw [if_neg (fun x => e2 x.2)]
   simp [e4]
 ·have e3 : ¬ (q : Int) = (atL b l d x.2.1).getD n 0 := by omega
  rw [if_neg (fun x => e1 x.1)]
  simp only [e3, decide_false, Bool.or_false]
theorem seenR_end {b l d : Int} {hs : List Int} {bad : Int} {caps : List Cp} {k N : Nat} (hk : k < caps.length) (hc : cntL b l d = N) (hx : (caps.getD k (0, 0, ())).1 ∈ hs) :
  mk N (seenR b l d hs bad (caps.take k) (caps.getD k (0, 0, ())) (atL b l d (caps.getD k (0, 0, ())).2.1).length) = mk N (seenC b l d hs bad (caps.take (k + 1))) := mk_congr fun q h hq _ => by
 rw [take_snoc (0, 0, ()) caps k hk]
 unfold seenR seenC
 rw [List.take_length, List.any_append]
 have e : (atL b l d (caps.getD k (0, 0, ())).2.1).contains (q : Int) = exB b l d (caps.getD k (0, 0, ())).2.1 q := by
  rw [Bool.eq_iff_iff, List.contains_iff_mem]
  unfold atL
  rw [atG_mem]
  constructor
  ·exact fun h => h.2.2
  ·exact fun h => ⟨by omega, by omega, h⟩
 rw [e]
 generalize caps.getD k (0, 0, ()) = y at hx ⊢
 by_cases e2 : y.1 = (h : Int)
 ·have : hs.contains (h : Int) = true := by rw [← e2]; simpa using hx
  rw [this]; simp [capIn, e2, Bool.or_assoc]
 ·simp [capIn, e2]

/-- how many are true -/
def cntF (f : Nat → Bool) : Nat → Nat
 | 0 => 0
 | k + 1 => cntF f k + (if f k = true then 1 else 0)
theorem cntF_congr {f g : Nat → Bool} : ∀ {k : Nat}, (∀ i, i < k → f i = g i) → cntF f k = cntF g k
 | 0, _ => rfl
 | k + 1, h => by rw [cntF, cntF, cntF_congr fun i hi => h i (by omega), h k (by omega)]
theorem cntF_le (f : Nat → Bool) : ∀ k, cntF f k ≤ k
 | 0 => Nat.le_refl _
 | k + 1 => by have := cntF_le f k; rw [cntF]; split <;> omega
/-- the set of those that are true -/
def setF2 (f : Nat → Bool) : Nat → Nat
 | 0 => 0
 | k + 1 => setF2 f k + (if f k = true then 2 ^ k else 0)
theorem setF2_lt (f : Nat → Bool) : ∀ k, setF2 f k < 2 ^ k
 | 0 => by simp [setF2]
 | k + 1 => by have := setF2_lt f k; rw [setF2, Nat.pow_succ]; split <;> omega
theorem setF2_or (f : Nat → Bool) (k : Nat) : setF2 f k ||| 2 ^ k = setF2 f k + 2 ^ k := by
 have := Nat.two_pow_add_eq_or_of_lt (setF2_lt f k) 1
 rw [Nat.mul_one] at this
 rw [Nat.add_comm, this, Nat.or_comm]
theorem setF2_congr {f g : Nat → Bool} : ∀ {k : Nat}, (∀ i, i < k → f i = g i) → setF2 f k = setF2 g k
 | 0, _ => rfl
 | k + 1, h => by rw [setF2, setF2, setF2_congr fun i hi => h i (by omega), h k (by omega)]
theorem setF2_bound (f : Nat → Bool) {k : Nat} (h : k ≤ 12) : setF2 f k < 4096 := Nat.lt_of_lt_of_le (setF2_lt f k) (Nat.pow_le_pow_right (by omega) h)

def telP (b l d m : Int) (hs : List Int) (bad : Int) (caps : List Cp) (q : Nat) : Bool := decide (m ≤ (cntF (seenC b l d hs bad caps q) 12 : Int))
def telG (b l d m : Int) (hs : List Int) (bad : Int) (caps : List Cp) (k : Nat) : List Int := ((List.range k).filter (telP b l d m hs bad caps)).map Int.ofNat
theorem telG_succ (b l d m hs bad caps k) : telG b l d m hs bad caps (k + 1) = telG b l d m hs bad caps k ++ (if telP b l d m hs bad caps k = true then [(k : Int)] else []) := by
 unfold telG
 rw [List.range_succ, List.filter_append, List.map_append]
 split <;> simp_all
theorem telG_len (b l d m hs bad caps k) : (telG b l d m hs bad caps k).length ≤ k := by
 unfold telG
 rw [List.length_map]
 exact Nat.le_trans (List.length_filter_le _ _) (by simp)
def redL (b l d m : Int) (hs : List Int) (bad : Int) (caps : List Cp) : Int := if chkL b l d m hs = 0 then (if 0 ≤ bad ∧ bad ≤ 4095 then capL caps else 1) else chkL b l d m hs
theorem red0 {b l d m : Int} {hs : List Int} {bad : Int} {caps : List Cp} (h : redL b l d m hs bad caps = 0) : Cal b l d m hs ∧ 0 ≤ bad ∧ bad ≤ 4095 ∧ caps.length ≤ 500 ∧ ∀ x ∈ caps, capB x = true := by
 unfold redL at h
 split at h
 ·rename_i h1
  split at h
  ·rename_i h2; exact ⟨chk0 h1, h2.1, h2.2, cap0 h⟩
  ·omega
 ·contradiction
def telL (b l d m : Int) (hs : List Int) (bad : Int) (caps : List Cp) : List Int := if redL b l d m hs bad caps = 0 then telG b l d m hs bad caps (cntL b l d).toNat else []
def senL (b l d m : Int) (hs : List Int) (caps : List Cp) (q : Int) : Int := if chkL b l d m hs = 0 ∧ capL caps = 0 ∧ askL b l d m hs q = 0 then (setF2 (seenC b l d hs 0 caps q.toNat) 12 : Int) else 0
def senE (b l d m : Int) (hs : List Int) (caps : List Cp) (q : Int) : Int := if chkL b l d m hs = 0 then (if capL caps = 0 then askL b l d m hs q else capL caps) else chkL b l d m hs
end Go.Proofs.YtogipicegdbhdaaDoor.S41c

namespace Go.Proofs.YtogipicegdbhdaaDoor.S41c
open Go Go.Proofs.YtogipicegdbhdaaDoor.Vc Go.Proofs
set_option maxRecDepth 100000
set_option linter.unusedVariables false
open Go.Proofs.YtogipicegdbhdaaDoor.S41
def sIdx : List V → Option (Prop × V × List Blk)
 | [.sl false (.int .i64) s, .int .i64 x] => some (s.length ≤ 2000000, .int .i64 (idxF x s 0), [])
 | _ => none
set_option maxHeartbeats 1000000 in
theorem bIdx (s : List Int) (x : Int) (hp0 : s.length ≤ 2000000) : bodyP (En CExd tys G6 QZCo2) Tryd.f47 [.k] [.sl false (.int .i64) s, .int .i64 x] (.int .i64 (idxF x s 0)) [] := by
 refine ⟨0, [(0, .k), (1, .k), (7, .k), (8, .k)], fun nM vs H => ∃ (k : Nat), k ≤ s.length ∧ idxF x (s.drop k) k = idxF x s 0 ∧ nM = s.length - k ∧ vs = [.sl false (.int .i64) s, .int .i64 x, .int .i64 (s.length : Int), .int .i64 (k : Int)] ∧ H = [], ⟨rfl, s.length, 0, by omega, rfl, by omega, rfl, rfl⟩, ?_⟩
 rintro nM vs H ⟨k, hc1_0, hc1_1, rfl, rfl, rfl⟩
 refine ⟨fun h0 => ?_, fun h0 => ?_⟩
 ·replace h0 : (k : Int) < (s.length : Int) := h0
  rw [drop_one 0 s k (by omega), idxF] at hc1_1
  refine ⟨(i0 (k : Int) (s.length : Int)), fun h1 => ?_, fun h1 => ?_⟩
  ·replace h1 : x = (s.getD k 0) := h1
   rw [if_pos h1] at hc1_1
   rw [← hc1_1]
   exact ⟨rfl, rfl, rfl, rfl⟩
  ·replace h1 : ¬ (x = (s.getD k 0)) := h1
   rw [if_neg h1] at hc1_1
   refine ⟨(r64 ((k : Int) + 1)), ?_⟩
   exact ⟨rfl, s.length - (k + 1), by omega, k + 1, by omega, hc1_1, rfl, rfl, rfl⟩
 ·replace h0 : ¬ ((k : Int) < (s.length : Int)) := h0
  rw [List.drop_eq_nil_of_le (by omega), idxF] at hc1_1
  rw [← hc1_1]
  exact ⟨rfl, rfl, rfl, rfl⟩
def CIdx : List (Nat × Con) := (47, pureC [.v (.sl (.int .i64)), .v (.int .i64)] sIdx) :: CExd
theorem kIdx : Known Tryd.prog (En CIdx tys G6 QZCo2) := kExd.add Tryd.func47 Tryd.call47 [.k] fun ds p v bs h hp => by
 unfold sIdx at h
 split at h <;> simp only [Option.some.injEq, Prod.mk.injEq, reduceCtorEq] at h
 obtain ⟨rfl, rfl, rfl⟩ := h
 exact bIdx _ _ hp
def sCts : List V → Option (Prop × V × List Blk)
 | [.sl false (.int .i64) s, .int .i64 x] => some (s.length ≤ 2000000, .b (x ∈ s), [])
 | _ => none
set_option maxHeartbeats 1000000 in
theorem bCts (s : List Int) (x : Int) (hp0 : s.length ≤ 2000000) : bodyP (En CIdx tys G6 QZCo2) Tryd.f74 [.k] [.sl false (.int .i64) s, .int .i64 x] (.b (x ∈ s)) [] := by
 refine ⟨rfl, by show s.length ≤ 2000000; first | omega | assumption, ?_⟩
 exact ⟨rfl, rfl, congrArg V.b (propext (idxF_mem x s 0 (by omega))), rfl⟩
def CCts : List (Nat × Con) := (74, pureC [.v (.sl (.int .i64)), .v (.int .i64)] sCts) :: CIdx
theorem kCts : Known Tryd.prog (En CCts tys G6 QZCo2) := kIdx.add Tryd.func74 Tryd.call74 [.k] fun ds p v bs h hp => by
 unfold sCts at h
 split at h <;> simp only [Option.some.injEq, Prod.mk.injEq, reduceCtorEq] at h
 obtain ⟨rfl, rfl, rfl⟩ := h
 exact bCts _ _ hp
def sCap : List V → Option (Prop × V × List Blk)
 | [.sl false (.cons (.int .i64) (.cons (.int .i64) .nil)) a] => some (a.length ≤ 2000000, .int .i64 (capL a), [])
 | _ => none
set_option maxHeartbeats 1000000 in
theorem bCap (a : List (Int × (Int × Unit))) (hp0 : a.length ≤ 2000000) : bodyP (En CCts tys G6 QZCo2) Tryd.f39 [.k] [.sl false (.cons (.int .i64) (.cons (.int .i64) .nil)) a] (.int .i64 (capL a)) [] := by
 refine ⟨fun h0 => ?_, fun h0 => ?_⟩
 ·replace h0 : 500 < (a.length : Int) := h0
  refine ⟨rfl, rfl, ?_, rfl⟩
  unfold capL
  repeat' split
  all_goals first | rfl | omega | (exfalso; simp_all; done)
 ·replace h0 : ¬ (500 < (a.length : Int)) := h0
  refine ⟨0, [(3, .k), (9, .k), (10, .k), (11, .k)], fun nM vs H => ∃ (k : Nat), k ≤ a.length ∧ (a.drop k).all capB = a.all capB ∧ nM = a.length - k ∧ vs = [.int .i64 0, .sl false (.cons (.int .i64) (.cons (.int .i64) .nil)) a, .int .i64 (a.length : Int), .int .i64 (k : Int)] ∧ H = [], ⟨rfl, a.length, 0, by omega, rfl, by omega, rfl, rfl⟩, ?_⟩
  rintro nM vs H ⟨k, hc1_0, hc1_1, rfl, rfl, rfl⟩
  refine ⟨fun h1 => ?_, fun h1 => ?_⟩
  ·replace h1 : (k : Int) < (a.length : Int) := h1
   have hk : k < a.length := by omega
   refine ⟨(i0 (k : Int) (a.length : Int)), ⟨rfl, rfl, rfl, Nat.le_of_ble_eq_true rfl⟩, rfl, rfl, rfl, trivial, fun h2 => ?_, fun h2 => ?_⟩
   ·replace h2 : ¬ (¬ (0 ≤ ((a.getD k (0, (0, ()))).1) ∧ ((a.getD k (0, (0, ()))).1) ≤ 11)) := h2
    refine ⟨rfl, rfl, rfl, trivial, fun h3 => ?_, fun h3 => ?_⟩
    ·replace h3 : ¬ (0 ≤ (((a.getD k (0, (0, ()))).2).1) ∧ (((a.getD k (0, (0, ()))).2).1) ≤ 1000000) := h3
     have e := all_bad (d := (0, (0, ()))) hk hc1_1 (capB_no (by omega))
     refine ⟨rfl, rfl, ?_, rfl⟩
     unfold capL
     repeat' split
     all_goals first | rfl | omega | (exfalso; simp_all; done)
    ·replace h3 : ¬ (¬ (0 ≤ (((a.getD k (0, (0, ()))).2).1) ∧ (((a.getD k (0, (0, ()))).2).1) ≤ 1000000)) := h3
     refine ⟨(r64 ((k : Int) + 1)), ?_⟩
     exact ⟨rfl, a.length - (k + 1), by omega, k + 1, by omega, all_next (d := (0, (0, ()))) hk hc1_1 (capB_yes (by omega)), rfl, rfl, rfl⟩
   ·replace h2 : ¬ (0 ≤ ((a.getD k (0, (0, ()))).1) ∧ ((a.getD k (0, (0, ()))).1) ≤ 11) := h2
    have e := all_bad (d := (0, (0, ()))) hk hc1_1 (capB_no (by omega))
    refine ⟨rfl, rfl, ?_, rfl⟩
    unfold capL
    repeat' split
    all_goals first | rfl | omega | (exfalso; simp_all; done)
  ·replace h1 : ¬ ((k : Int) < (a.length : Int)) := h1
   have e := all_end (by omega) hc1_1
   refine ⟨rfl, rfl, ?_, rfl⟩
   unfold capL
   repeat' split
   all_goals first | rfl | omega | (exfalso; simp_all; done)
def CCap : List (Nat × Con) := (39, pureC [.v (.sl (.cons (.int .i64) (.cons (.int .i64) .nil)))] sCap) :: CCts
theorem kCap : Known Tryd.prog (En CCap tys G6 QZCo2) := kCts.add Tryd.func39 Tryd.call39 [.k] fun ds p v bs h hp => by
 unfold sCap at h
 split at h <;> simp only [Option.some.injEq, Prod.mk.injEq, reduceCtorEq] at h
 obtain ⟨rfl, rfl, rfl⟩ := h
 exact bCap _ hp
def sAt : List V → Option (Prop × Nat × (Nat → List V))
 | [.rp false (.int .i64) t 0, .rp false (.cons (.int .i64) (.cons (.int .i64) (.cons (.int .i64) (.cons (.int .i64) (.cons (.sl (.int .i64)) .nil))))) c 0] => some (Cal c.1 c.2.1 c.2.2.1 c.2.2.2.1 c.2.2.2.2.1 ∧ 0 ≤ t ∧ t ≤ 1000000, ((atL c.1 c.2.1 c.2.2.1 t).length, fun n => [.int .i64 ((atL c.1 c.2.1 c.2.2.1 t).getD n 0)]))
 | _ => none
set_option maxHeartbeats 1000000 in
theorem bAt (t : Int) (c : (Int × (Int × (Int × (Int × (List Int × Unit)))))) (hp0 : Cal c.1 c.2.1 c.2.2.1 c.2.2.2.1 c.2.2.2.2.1) (hp1 : 0 ≤ t) (hp2 : t ≤ 1000000) : bodyS (En CCap tys G6 QZCo2).inR Tryd.f94 [.rp false (.int .i64) t 0, .rp false (.cons (.int .i64) (.cons (.int .i64) (.cons (.int .i64) (.cons (.int .i64) (.cons (.sl (.int .i64)) .nil))))) c 0] [.v (.int .i64)] ((atL c.1 c.2.1 c.2.2.1 t).length, fun n => [.int .i64 ((atL c.1 c.2.1 c.2.2.1 t).getD n 0)]) := by
 obtain ⟨q1, q2, q3, q4, q5, q6, q7, q8, q9, q10, q11⟩ := id hp0
 have hst := at_start (b := c.1) (l := c.2.1) (t := t) q4 (by omega)
 obtain ⟨q0, hq0⟩ : ∃ q0 : Nat, max 0 (Int.tdiv (t - 2 - c.1) c.2.2.1) = (q0 : Int) := ⟨(max 0 (Int.tdiv (t - 2 - c.1) c.2.2.1)).toNat, by omega⟩
 rw [hq0] at hst
 refine ⟨rfl, (r64 (t - 2)), (r64 ((t - 2) - c.1)), .inr (.inr ⟨by show (0 : Int) < c.2.2.1; omega, ?_⟩)⟩
 refine ⟨0, [(0, .k), (1, .k), (2, .k), (4, .k)], fun nM vs H => ∃ (k q : Nat), k ≤ (atL c.1 c.2.1 c.2.2.1 t).length ∧ (atL c.1 c.2.1 c.2.2.1 t).drop k = atG c.1 c.2.1 c.2.2.1 t (cntL c.1 c.2.1 c.2.2.1 - q).toNat q ∧ nM = (cntL c.1 c.2.1 c.2.2.1).toNat - q ∧ vs = [.yld (some k), .rp false (.int .i64) t 0, .rp false (.cons (.int .i64) (.cons (.int .i64) (.cons (.int .i64) (.cons (.int .i64) (.cons (.sl (.int .i64)) .nil))))) c 0, .int .i64 (q : Int)] ∧ H = [], ⟨rfl, (cntL c.1 c.2.1 c.2.2.1).toNat - q0, 0, q0, by omega, hst, by omega, by rw [← hq0]; rfl, rfl⟩, ?_⟩
 rintro nM vs H ⟨k, q, hc1_0, hc1_1, rfl, rfl, rfl⟩
 refine ⟨rfl, rfl, rfl, rfl, ⟨by show 0 ≤ c.1; first | omega | assumption, by show c.1 ≤ c.2.1; first | omega | assumption, by show c.2.1 ≤ 1000000; first | omega | assumption, by show 1 ≤ c.2.2.1; first | omega | assumption⟩, fun h0 => ?_, fun h0 => ?_⟩
 ·replace h0 : (q : Int) < (cntL c.1 c.2.1 c.2.2.1) := h0
  obtain ⟨f, hf⟩ : ∃ f : Nat, (cntL c.1 c.2.1 c.2.2.1 - q).toNat = f + 1 := ⟨(cntL c.1 c.2.1 c.2.2.1 - q).toNat - 1, by omega⟩
  have hf2 : (cntL c.1 c.2.1 c.2.2.1 - ((q + 1 : Nat) : Int)).toNat = f := by omega
  rw [hf] at hc1_1
  refine ⟨rfl, rfl, rfl, rfl, rfl, ⟨by show 0 ≤ c.1; first | omega | assumption, by show c.1 ≤ c.2.1; first | omega | assumption, by show c.2.1 ≤ 1000000; first | omega | assumption, by show 1 ≤ c.2.2.1; first | omega | assumption, by show c.2.2.1 ≤ 1000000; first | omega | assumption, by show 0 ≤ (q : Int); first | omega | assumption, by show (q : Int) < cntL c.1 c.2.1 c.2.2.1; first | omega | assumption⟩, fun h1 => ?_, fun h1 => ?_⟩
  ·replace h1 : t < (expF c.1 c.2.2.1 (q : Int)) := h1
   rw [atG_nil _ _ _ _ _ _ fun x g1 _ => at_late q4 h1 g1] at hc1_1
   have hz := drop_nil hc1_0 hc1_1
   show (k : Nat) = (atL c.1 c.2.1 c.2.2.1 t).length
   omega
  ·replace h1 : ¬ (t < (expF c.1 c.2.2.1 (q : Int))) := h1
   refine ⟨fun h2 => ?_, fun h2 => ?_⟩
   ·replace h2 : t ≤ (expT c.1 c.2.1 c.2.2.1 (q : Int)) := h2
    have hx : exB c.1 c.2.1 c.2.2.1 t q = true := decide_eq_true ⟨by omega, h2⟩
    rw [atG, if_pos hx] at hc1_1
    obtain ⟨y1, y2, y3⟩ := drop_cons (d := 0) hc1_1
    refine ⟨rfl, ⟨y1, by show [V.int .i64 (q : Int)] = [V.int .i64 ((atL c.1 c.2.1 c.2.2.1 t).getD k 0)]; rw [y2]⟩, ?_, ?_⟩
    ·refine ⟨(r64 ((q : Int) + 1)), ?_⟩
     exact ⟨rfl, (cntL c.1 c.2.1 c.2.2.1).toNat - (q + 1), by omega, k + 1, q + 1, by omega, by rw [y3, hf2]; rfl, rfl, rfl, rfl⟩
    ·trivial
   ·replace h2 : ¬ (t ≤ (expT c.1 c.2.1 c.2.2.1 (q : Int))) := h2
    have hx : ¬ exB c.1 c.2.1 c.2.2.1 t q = true := by unfold exB; rw [decide_eq_true_eq]; omega
    rw [atG, if_neg hx] at hc1_1
    refine ⟨(r64 ((q : Int) + 1)), ?_⟩
    exact ⟨rfl, (cntL c.1 c.2.1 c.2.2.1).toNat - (q + 1), by omega, k, q + 1, by omega, by rw [hc1_1, hf2]; rfl, rfl, rfl, rfl⟩
 ·replace h0 : ¬ ((q : Int) < (cntL c.1 c.2.1 c.2.2.1)) := h0
  rw [show (cntL c.1 c.2.1 c.2.2.1 - (q : Int)).toNat = 0 by omega, atG] at hc1_1
  have hz := drop_nil hc1_0 hc1_1
  show (k : Nat) = (atL c.1 c.2.1 c.2.2.1 t).length
  omega
def QAt : List (Nat × SeqC) := (94, [.ref (.int .i64), .ref (.cons (.int .i64) (.cons (.int .i64) (.cons (.int .i64) (.cons (.int .i64) (.cons (.sl (.int .i64)) .nil)))))], sAt) :: QZCo2
def CAt : List (Nat × Con) := CCap
theorem kAt : Known Tryd.prog (En CAt tys G6 QAt) := kCap.addSeq Tryd.func94 Tryd.call94 [.v (.int .i64)] fun ds p L h hp => by
 unfold sAt at h
 split at h <;> simp only [Option.some.injEq, Prod.mk.injEq, reduceCtorEq] at h
 obtain ⟨rfl, rfl⟩ := h
 exact bAt _ _ hp.1 hp.2.1 hp.2.2
def sAtt : List V → Option (Prop × V × List Blk)
 | [.agg [.int .i64 b, .int .i64 l, .int .i64 d, .int .i64 m, .sl false (.int .i64) hs], .int .i64 t] => some (True, .fn 94 [.ptr 0 1 0 0, .ptr 1 1 0 0], [.cells [.int .i64 (t)], .cells [.int .i64 (b), .int .i64 (l), .int .i64 (d), .int .i64 (m), .sl false (.int .i64) (hs)]])
 | _ => none
set_option maxHeartbeats 1000000 in
theorem bAtt (b : Int) (l : Int) (d : Int) (m : Int) (hs : List Int) (t : Int)  : bodyI (En CAt tys G6 QAt) Tryd.f75 [.c []] [.agg [.int .i64 b, .int .i64 l, .int .i64 d, .int .i64 m, .sl false (.int .i64) hs], .int .i64 t] (.fn 94 [.ptr 0 1 0 0, .ptr 1 1 0 0]) [.cells [.int .i64 (t)], .cells [.int .i64 (b), .int .i64 (l), .int .i64 (d), .int .i64 (m), .sl false (.int .i64) (hs)]] := by
 exact ⟨rfl, rfl, rfl, rfl⟩
def CAtt : List (Nat × Con) := (75, immC [.v (.cons (.int .i64) (.cons (.int .i64) (.cons (.int .i64) (.cons (.int .i64) (.cons (.sl (.int .i64)) .nil))))), .v (.int .i64)] sAtt) :: CAt
theorem kAtt : Known Tryd.prog (En CAtt tys G6 QAt) := kAt.addI Tryd.func75 Tryd.call75 [.c []] fun ds p v bs h hp => by
 unfold sAtt at h
 split at h <;> simp only [Option.some.injEq, Prod.mk.injEq, reduceCtorEq] at h
 obtain ⟨rfl, rfl, rfl⟩ := h
 exact bAtt _ _ _ _ _ _
def sMany : List V → Option (Prop × V × List Blk)
 | [.dat false (.arr 12 .bool) x] => some (x.length = 12, .int .i64 (cntF (fun i => x.getD i false) 12 : Int), [])
 | _ => none
set_option maxHeartbeats 1000000 in
theorem bMany (x : List Bool) (hp0 : x.length = 12) : bodyP (En CAtt tys G6 QAt) Tryd.f38 [.k] [.dat false (.arr 12 .bool) x] (.int .i64 (cntF (fun i => x.getD i false) 12 : Int)) [] := by
 refine ⟨⟨rfl, by first | assumption | rfl | simp⟩, by first | assumption | rfl | simp, 1, [(3, .k), (6, .k), (7, .k)], fun nM vs H => ∃ (k : Nat), k ≤ 12 ∧ nM = 12 - k ∧ vs = [.int .i64 (cntF (fun i => x.getD i false) k : Int), .dat true (.arr 12 .bool) x, .int .i64 (k : Int)] ∧ H = [.row true .bool x], ⟨rfl, 12, 0, by omega, by omega, rfl, rfl⟩, ?_⟩
 rintro nM vs H ⟨k, hc1_0, rfl, rfl, rfl⟩
 have hle := cntF_le (fun i => x.getD i false) k
 have hsu : cntF (fun i => x.getD i false) (k + 1) = cntF (fun i => x.getD i false) k + (if x.getD k false = true then 1 else 0) := rfl
 refine ⟨fun h0 => ?_, fun h0 => ?_⟩
 ·replace h0 : (k : Int) < 12 := h0
  refine ⟨(i0 (k : Int) (12 : Int)), fun h1 => ?_, fun h1 => ?_⟩
  ·replace h1 : (x.getD k false) = true := h1
   refine ⟨(r64 ((cntF (fun i => x.getD i false) k : Int) + 1)), (r64 ((k : Int) + 1)), ?_⟩
   first | rw [if_pos h1] at hsu | rw [if_neg h1] at hsu
   exact ⟨rfl, 12 - (k + 1), by omega, k + 1, by omega, rfl, by rw [hsu]; rfl, rfl⟩
  ·replace h1 : ¬ ((x.getD k false) = true) := h1
   refine ⟨(r64 ((k : Int) + 1)), ?_⟩
   first | rw [if_pos h1] at hsu | rw [if_neg h1] at hsu
   exact ⟨rfl, 12 - (k + 1), by omega, k + 1, by omega, rfl, by rw [hsu]; rfl, rfl⟩
 ·replace h0 : ¬ ((k : Int) < 12) := h0
  obtain rfl : k = 12 := by omega
  exact ⟨rfl, rfl, rfl, rfl⟩
def CMany : List (Nat × Con) := (38, pureC [.v (.arr 12 .bool)] sMany) :: CAtt
theorem kMany : Known Tryd.prog (En CMany tys G6 QAt) := kAtt.add Tryd.func38 Tryd.call38 [.k] fun ds p v bs h hp => by
 unfold sMany at h
 split at h <;> simp only [Option.some.injEq, Prod.mk.injEq, reduceCtorEq] at h
 obtain ⟨rfl, rfl, rfl⟩ := h
 exact bMany _ hp
def sSeen : List V → Option (Prop × V × List Blk)
 | [.agg [.int .i64 b, .int .i64 l, .int .i64 d, .int .i64 m, .sl false (.int .i64) hs], .int .i64 bad, .sl false (.cons (.int .i64) (.cons (.int .i64) .nil)) a] => some (Cal b l d m hs ∧ 0 ≤ bad ∧ a.length ≤ 500 ∧ ∀ x ∈ a, capB x = true, .own (.arr 12 .bool) 0, [.row true (.arr 12 .bool) (mk (cntL b l d).toNat (seenC b l d hs bad a))])
 | _ => none
set_option maxHeartbeats 1000000 in
theorem bSeen (b : Int) (l : Int) (d : Int) (m : Int) (hs : List Int) (bad : Int) (a : List (Int × (Int × Unit))) (hp0 : Cal b l d m hs) (hp1 : 0 ≤ bad) (hp2 : a.length ≤ 500) (hp3 : ∀ x ∈ a, capB x = true) : bodyP (En CMany tys G6 QAt) Tryd.f37 [.o (.arr 12 .bool)] [.agg [.int .i64 b, .int .i64 l, .int .i64 d, .int .i64 m, .sl false (.int .i64) hs], .int .i64 bad, .sl false (.cons (.int .i64) (.cons (.int .i64) .nil)) a] (.own (.arr 12 .bool) 0) [.row true (.arr 12 .bool) (mk (cntL b l d).toNat (seenC b l d hs bad a))] := by
 obtain ⟨q1, q2, q3, q4, q5, q6, q7, q8, q9, q10, q11⟩ := id hp0
 obtain ⟨N, hN⟩ : ∃ N : Nat, cntL b l d = (N : Int) := ⟨(cntL b l d).toNat, by omega⟩
 have hRl : (List.replicate ((cntL b l d).toNat) (List.replicate 12 false)).length = N := by rw [List.length_replicate, hN]; rfl
 have hinit : mk N (seenA hs bad 0 0) = List.replicate ((cntL b l d).toNat) (List.replicate 12 false) := by rw [seenA_zero, ← mk_zero, hN]; rfl
 refine ⟨rfl, rfl, rfl, rfl, ⟨by show 0 ≤ b; first | omega | assumption, by show b ≤ l; first | omega | assumption, by show l ≤ 1000000; first | omega | assumption, by show 1 ≤ d; first | omega | assumption⟩, ⟨rfl, by show (0 : Int) ≤ cntL b l d; omega, by show cntL b l d ≤ (1000000000 : Int); omega⟩, ⟨rfl, rfl, rfl⟩, 3, [(1, .k), (2, .k), (3, .k), (7, .k), (18, .k), (19, .k)], fun nM vs H => ∃ (i : Nat), i ≤ N ∧ nM = N - i ∧ vs = [.int .i64 bad, .sl false (.cons (.int .i64) (.cons (.int .i64) .nil)) a, .ptr 0 1 0 0, .ptr 2 1 0 0, .int .i64 (((List.replicate ((cntL b l d).toNat) (List.replicate 12 false)).length : Nat) : Int), .int .i64 (i : Int)] ∧ H = [.cells [.int .i64 b, .int .i64 l, .int .i64 d, .int .i64 m, .sl false (.int .i64) hs], .row true (.arr 12 .bool) (mk N (seenA hs bad i 0)), .cells [.own (.arr 12 .bool) 1]], ⟨rfl, N, 0, by omega, by omega, rfl, by rw [hinit]; rfl⟩, ?_⟩
 rintro nM vs H ⟨i, hc1_0, rfl, rfl, rfl⟩
 refine ⟨fun h0 => ?_, fun h0 => ?_⟩
 ·replace h0 : (i : Int) < (((List.replicate ((cntL b l d).toNat) (List.replicate 12 false)).length : Nat) : Int) := h0
  refine ⟨3, [(1, .k), (2, .k), (3, .k), (7, .k), (8, .k), (18, .k), (19, .k), (23, .k), (24, .k), (25, .k)], fun nM vs H => ∃ (k : Nat), k ≤ hs.length ∧ nM = hs.length - k ∧ vs = [.int .i64 bad, .sl false (.cons (.int .i64) (.cons (.int .i64) .nil)) a, .ptr 0 1 0 0, .ptr 2 1 0 0, .int .i64 (i : Int), .int .i64 (((List.replicate ((cntL b l d).toNat) (List.replicate 12 false)).length : Nat) : Int), .int .i64 (i : Int), .sl false (.int .i64) hs, .int .i64 (hs.length : Int), .int .i64 (k : Int)] ∧ H = [.cells [.int .i64 b, .int .i64 l, .int .i64 d, .int .i64 m, .sl false (.int .i64) hs], .row true (.arr 12 .bool) (mk N (seenA hs bad i k)), .cells [.own (.arr 12 .bool) 1]], ⟨rfl, hs.length, 0, by omega, by omega, rfl, rfl⟩, ?_⟩
  rintro nM vs H ⟨k, hc2_0, rfl, rfl, rfl⟩
  refine ⟨fun h1 => ?_, fun h1 => ?_⟩
  ·replace h1 : (k : Int) < (hs.length : Int) := h1
   have hkl : k < hs.length := by omega
   obtain ⟨g0, g1⟩ := hsF_at hs _ k q8 hkl
   have g2 := sh_nonneg hp1 (hs.getD k 0).toNat
   have hiN : i < N := by omega
   have hml := mk_len N (seenA hs bad i k)
   refine ⟨(i0 (k : Int) (hs.length : Int)), by kernel_rfl, ⟨by show (0 : Int) ≤ hs.getD k 0; omega, by show hs.getD k 0 ≤ (64 : Int); omega⟩, .inl ⟨⟨by show (0 : Int) ≤ (bad / 2 ^ ((hs.getD k 0).toNat)); omega, by show (0 : Int) ≤ 1; omega⟩, ?_⟩⟩
   refine ⟨(i0 (i : Int) ((mk N (seenA hs bad i k)).length : Int)), (i0 (hs.getD k 0) (12 : Int)), ⟨rfl, rfl⟩, (r64 ((k : Int) + 1)), ?_⟩
   exact ⟨rfl, hs.length - (k + 1), by omega, k + 1, by omega, rfl, rfl, by rw [← seenA_step hkl g0 g1 hiN (List.replicate 12 false), ← bit_store hp1]; rfl⟩
  ·replace h1 : ¬ ((k : Int) < (hs.length : Int)) := h1
   have hk : k = hs.length := by omega
   refine ⟨(r64 ((i : Int) + 1)), ?_⟩
   exact ⟨rfl, N - (i + 1), by omega, i + 1, by omega, rfl, rfl, by rw [hk, seenA_next]; rfl⟩
 ·replace h0 : ¬ ((i : Int) < (((List.replicate ((cntL b l d).toNat) (List.replicate 12 false)).length : Nat) : Int)) := h0
  have hi : i = N := by omega
  refine ⟨3, [(3, .k), (7, .k), (41, .k), (42, .k), (43, .k)], fun nM vs H => ∃ (k : Nat), k ≤ a.length ∧ nM = a.length - k ∧ vs = [.ptr 0 1 0 0, .ptr 2 1 0 0, .sl false (.cons (.int .i64) (.cons (.int .i64) .nil)) a, .int .i64 (a.length : Int), .int .i64 (k : Int)] ∧ H = [.cells [.int .i64 b, .int .i64 l, .int .i64 d, .int .i64 m, .sl false (.int .i64) hs], .row true (.arr 12 .bool) (mk N (seenC b l d hs bad (a.take k))), .cells [.own (.arr 12 .bool) 1]], ⟨rfl, a.length, 0, by omega, by omega, rfl, by rw [hi, List.take_zero, ← seenA_end]; rfl⟩, ?_⟩
  rintro nM vs H ⟨k, hc3_0, rfl, rfl, rfl⟩
  refine ⟨fun h2 => ?_, fun h2 => ?_⟩
  ·replace h2 : (k : Int) < (a.length : Int) := h2
   have hka : k < a.length := by omega
   have hcb := capB_ok (hp3 _ (getD_mem (0, (0, ())) a k hka))
   refine ⟨(i0 (k : Int) (a.length : Int)), ⟨rfl, rfl, rfl, Nat.le_of_ble_eq_true rfl⟩, rfl, by show hs.length ≤ 2000000; first | omega | assumption, fun h3 => ?_, fun h3 => ?_⟩
   ·replace h3 : ¬ (((a.getD k (0, (0, ()))).1) ∈ hs) := h3
    refine ⟨(r64 ((k : Int) + 1)), ?_⟩
    first
    | exact ⟨rfl, a.length - (k + 1), by omega, k + 1, by omega, rfl, rfl, by rw [← seenC_skip hka h3]; rfl⟩
    | exact ⟨rfl, a.length - (k + 1), by omega, k + 1, by omega, rfl, rfl, by rw [← seenR_end hka hN hx]; rfl⟩
   ·replace h3 : ¬ (¬ (((a.getD k (0, (0, ()))).1) ∈ hs)) := h3
    have hx := Classical.not_not.1 h3
    have hz : 0 ≤ cntL b l d := by omega
    refine ⟨rfl, rfl, rfl, rfl, rfl, trivial, rfl, rfl, rfl, rfl, rfl, rfl, ⟨⟨by assumption, by show 0 ≤ (((a.getD k (0, (0, ()))).2).1); first | omega | assumption, by show (((a.getD k (0, (0, ()))).2).1) ≤ 1000000; first | omega | assumption⟩, fun _ _ => rfl⟩, 4, [(3, .k), (7, .k), (12, .k), (41, .k), (42, .k), (43, .k)], fun n vs H => n ≤ (atL b l d (a.getD k (0, (0, ()))).2.1).length ∧ vs = [.ptr 0 1 0 0, .ptr 2 1 0 0, .ptr 3 1 0 0, .sl false (.cons (.int .i64) (.cons (.int .i64) .nil)) a, .int .i64 (a.length : Int), .int .i64 (k : Int)] ∧ H = [.cells [.int .i64 b, .int .i64 l, .int .i64 d, .int .i64 m, .sl false (.int .i64) hs], .row true (.arr 12 .bool) (mk N (seenR b l d hs bad (a.take k) (a.getD k (0, (0, ()))) n)), .cells [.own (.arr 12 .bool) 1], .cells [.int .i64 ((a.getD k (0, (0, ()))).1), .int .i64 (((a.getD k (0, (0, ()))).2).1)]], ⟨rfl, by omega, rfl, by rw [seenR_zero]; rfl⟩, ?_, ?_⟩
    ·rintro n vs H ⟨hc4_0, rfl, rfl⟩ hn4
     replace hn4 : n < (atL b l d (((a.getD k (0, (0, ()))).2).1)).length := hn4
     replace hn4 : n < (atL b l d (a.getD k (0, (0, ()))).2.1).length := hn4
     obtain ⟨y1, y2, y3⟩ := atL_at hz hn4
     have hml := mk_len N (seenR b l d hs bad (a.take k) (a.getD k (0, (0, ()))) n)
     refine ⟨by kernel_rfl, (i0 ((atL b l d (((a.getD k (0, (0, ()))).2).1)).getD n 0) ((mk N (seenR b l d hs bad (a.take k) (a.getD k (0, (0, ()))) n)).length : Int)), (i0 ((a.getD k (0, (0, ()))).1) (12 : Int)), ⟨rfl, rfl⟩, ?_⟩
     exact ⟨rfl, rfl, by omega, rfl, by rw [← seenR_step (v := @decide (true = true) (Classical.propDecidable _)) (by simp) hx hcb.1 hcb.2.1 hn4 y1 (by omega) (List.replicate 12 false)]; rfl⟩
    ·rintro vs H ⟨hc4_0, rfl, rfl⟩
     refine ⟨(r64 ((k : Int) + 1)), ?_⟩
     first
     | exact ⟨rfl, a.length - (k + 1), by omega, k + 1, by omega, rfl, rfl, by rw [← seenC_skip hka h3]; rfl⟩
     | exact ⟨rfl, a.length - (k + 1), by omega, k + 1, by omega, rfl, rfl, by rw [← seenR_end hka hN hx]; rfl⟩
  ·replace h2 : ¬ ((k : Int) < (a.length : Int)) := h2
   have e : mk N (seenC b l d hs bad (a.take k)) = mk (cntL b l d).toNat (seenC b l d hs bad a) := by rw [show k = a.length by omega, List.take_length, hN]; rfl
   rw [← e]
   exact ⟨rfl, rfl, rfl, rfl⟩
def CSeen : List (Nat × Con) := (37, pureC [.v (.cons (.int .i64) (.cons (.int .i64) (.cons (.int .i64) (.cons (.int .i64) (.cons (.sl (.int .i64)) .nil))))), .v (.int .i64), .v (.sl (.cons (.int .i64) (.cons (.int .i64) .nil)))] sSeen) :: CMany
theorem kSeen : Known Tryd.prog (En CSeen tys G6 QAt) := kMany.add Tryd.func37 Tryd.call37 [.o (.arr 12 .bool)] fun ds p v bs h hp => by
 unfold sSeen at h
 split at h <;> simp only [Option.some.injEq, Prod.mk.injEq, reduceCtorEq] at h
 obtain ⟨rfl, rfl, rfl⟩ := h
 exact bSeen _ _ _ _ _ _ _ hp.1 hp.2.1 hp.2.2.1 hp.2.2.2
end Go.Proofs.YtogipicegdbhdaaDoor.S41c

namespace Go.Proofs.YtogipicegdbhdaaDoor.S41c
open Go

theorem mk_row_len {N : Nat} {F : Nat → Nat → Bool} {q : Nat} (h : q < N) (e : List Bool) : ((mk N F).getD q e).length = 12 := by rw [mk_get h]; simp
theorem mk_row_cnt {N : Nat} {F : Nat → Nat → Bool} {q : Nat} (h : q < N) (e : List Bool) : cntF (fun i => ((mk N F).getD q e).getD i false) 12 = cntF (F q) 12 := cntF_congr fun i hi => by rw [mk_get h, row_get hi]
theorem mk_row_set {N : Nat} {F : Nat → Nat → Bool} {q : Nat} (h : q < N) (e : List Bool) : setF2 (fun i => ((mk N F).getD q e).getD i false) 12 = setF2 (F q) 12 := setF2_congr fun i hi => by rw [mk_get h, row_get hi]

theorem pow12 : ∀ k, k < 12 → ((1 : Int) * 2 ^ k ≤ 2048 ∧ 0 ≤ (1 : Int) * 2 ^ k) := by decide
theorem set_or {f : Nat → Bool} {k : Nat} (h : f k = true) : setF2 f k ||| ((1 : Int) * 2 ^ k).toNat = setF2 f (k + 1) := by
 have e : ((1 : Int) * 2 ^ k).toNat = 2 ^ k := by
  rw [Int.one_mul]
  have : ((2 : Int) ^ k) = ((2 ^ k : Nat) : Int) := by simp
  rw [this]; rfl
 rw [e, setF2_or, setF2, if_pos h]
theorem set_no {f : Nat → Bool} {k : Nat} (h : ¬ f k = true) : setF2 f (k + 1) = setF2 f k := by rw [setF2, if_neg h]; rfl
def cmpL (x y : Int) : Int := if x < y then -1 else if y < x then 1 else 0
def cmpS : List Int → List Int → Int
 | [], [] => 0
 | [], _ :: _ => -1
 | _ :: _, [] => 1
 | x :: s, y :: t => if cmpL x y = 0 then cmpS s t else cmpL x y

def safE (b l d m : Int) (hs : List Int) (bad w k : Int) : Int := if redL b l d m hs bad [] = 0 then (if 1 ≤ w ∧ w ≤ 1000000 ∧ 0 ≤ k ∧ k ≤ 12 then 0 else 3) else redL b l d m hs bad []
def knwL (b l d : Int) (hs : List Int) (bad : Int) : Nat := cntF (seenC b l d hs bad [] 0) 12
def winL (b l d w : Int) (q : Nat) : Int := (min (expT b l d q) 1000000 - expF b d q) / w + 1
def safQ (b l d m : Int) (hs : List Int) (bad w k : Int) (q : Nat) : Bool :=
 decide ((knwL b l d hs bad : Int) + min ((hs.length : Int) - knwL b l d hs bad) (k * winL b l d w q) < m)
def safL (b l d m : Int) (hs : List Int) (bad w k : Int) : Bool := decide (safE b l d m hs bad w k = 0) && (List.range (cntL b l d).toNat).all (safQ b l d m hs bad w k)
theorem range_all_succ (p : Nat → Bool) (k : Nat) : (List.range (k + 1)).all p = ((List.range k).all p && p k) := by
 rw [List.range_succ, List.all_append]; simp
theorem range_all_bad {p : Nat → Bool} {k N : Nat} (hk : k < N) (h : p k = false) : (List.range N).all p = false := by
 rw [List.all_eq_false]
 exact ⟨k, by simpa using hk, by simp [h]⟩

/-- increasing, from 0 to a greatest one -/
def hgF (top : Int) : Int → List Int → Bool
 | _, [] => true
 | p, h :: t => decide (0 ≤ h ∧ h ≤ top ∧ p < h) && hgF top h t
theorem hg_bad {top : Int} {hs : List Int} {k : Nat} (hk : k < hs.length) (hc : hgF top (prv hs k) (hs.drop k) = hgF top (-1) hs) (h : ¬ (0 ≤ hs.getD k 0 ∧ hs.getD k 0 ≤ top ∧ prv hs k < hs.getD k 0)) : hgF top (-1) hs = false := by
 rw [← hc, drop_one 0 hs k hk, hgF, decide_eq_false h, Bool.false_and]
theorem hg_next {top : Int} {hs : List Int} {k : Nat} (hk : k < hs.length) (hc : hgF top (prv hs k) (hs.drop k) = hgF top (-1) hs) (h : 0 ≤ hs.getD k 0 ∧ hs.getD k 0 ≤ top ∧ prv hs k < hs.getD k 0) : hgF top (prv hs (k + 1)) (hs.drop (k + 1)) = hgF top (-1) hs := by
 rw [← hc, drop_one 0 hs k hk, hgF, decide_eq_true h, Bool.true_and]; rfl
theorem hg_end {top : Int} {hs : List Int} {k : Nat} (hk : hs.length ≤ k) (h0 : k ≤ hs.length) (hc : hgF top (prv hs k) (hs.drop k) = hgF top (-1) hs) : hgF top (-1) hs = true := by
 rw [← hc, List.drop_eq_nil_of_le hk]; rfl
theorem hg_at (top : Int) : ∀ (l : List Int) (p : Int) (k : Nat), hgF top p l = true → k < l.length → 0 ≤ l.getD k 0 ∧ l.getD k 0 ≤ top
 | [], p, k, _, hk => by simp at hk
 | h :: t, p, 0, hh, hk => by
  simp only [hgF, Bool.and_eq_true, decide_eq_true_eq] at hh
  exact ⟨hh.1.1, hh.1.2.1⟩
 | h :: t, p, k + 1, hh, hk => by
  simp only [hgF, Bool.and_eq_true, decide_eq_true_eq] at hh
  have := hg_at top t h k hh.2 (by simpa using hk)
  simpa using this

def lokE (b l d m : Int) (hs held : List Int) (t : Int) : Int :=
 if chkL b l d m hs = 0 then (if hgF (cntL b l d - 1) (-1) held = true then (if 0 ≤ t ∧ t ≤ 1000000 then 0 else 3) else 1) else chkL b l d m hs
def lokM (b l d m : Int) (hs held : List Int) (t : Int) : Int := if lokE b l d m hs held t = 0 then perL b l d m hs t else 0
def lokY (b l d m : Int) (hs held : List Int) (t : Int) : Int := if lokE b l d m hs held t = 0 then (if 0 ≤ perL b l d m hs t ∧ perL b l d m hs t + 1 < cntL b l d then perL b l d m hs t + 1 else -1) else 0
def lokL (b l d m : Int) (hs held : List Int) (t : Int) : Prop := lokE b l d m hs held t = 0 ∧ 0 ≤ perL b l d m hs t ∧ ¬ perL b l d m hs t ∈ held
def wpP (b l d t : Int) (q : Int) : Bool := decide (spanT b l d q < t)
def ltP (b l d t : Int) (q : Int) : Bool := decide (expT b l d q < t)
def eaP (b d t : Int) (q : Int) : Bool := decide (t < expF b d q)
def lokW (b l d m : Int) (hs held : List Int) (t : Int) : List Int := if lokE b l d m hs held t = 0 then held.filter (wpP b l d t) else []
def lokT (b l d m : Int) (hs held : List Int) (t : Int) : List Int := if lokE b l d m hs held t = 0 then held.filter (ltP b l d t) else []
def lokR (b l d m : Int) (hs held : List Int) (t : Int) : List Int := if lokE b l d m hs held t = 0 then held.filter (eaP b d t) else []
theorem filter_snoc {α : Type} (d : α) (p : α → Bool) (l : List α) (k : Nat) (h : k < l.length) : (l.take (k + 1)).filter p = (l.take k).filter p ++ (if p (l.getD k d) = true then [l.getD k d] else []) := by
 rw [take_snoc d l k h, List.filter_append]
 congr 1
 generalize l.getD k d = x
 split <;> simp_all
theorem filter_yes {α : Type} (d : α) (p : α → Bool) (l : List α) (k : Nat) (h : k < l.length) (hp : p (l.getD k d) = true) : (l.take (k + 1)).filter p = (l.take k).filter p ++ [l.getD k d] := by
 rw [filter_snoc d p l k h, if_pos hp]
theorem filter_no {α : Type} (d : α) (p : α → Bool) (l : List α) (k : Nat) (h : k < l.length) (hp : p (l.getD k d) = false) : (l.take (k + 1)).filter p = (l.take k).filter p := by
 rw [filter_snoc d p l k h, if_neg (by rw [hp]; simp), List.append_nil]
theorem per_ok {b l d m : Int} {hs : List Int} (hc : Cal b l d m hs) (t : Int) : -1 ≤ perL b l d m hs t ∧ perL b l d m hs t < cntL b l d := by
 have h1 := hc.c1
 unfold perL
 split
 ·rename_i h
  have h2 := Int.ediv_le_ediv (by have := hc.n1; omega : 0 < d) (by omega : t - b ≤ l - b)
  have h3 := Int.ediv_nonneg (by omega : 0 ≤ t - b) (by have := hc.n1; omega : 0 ≤ d)
  unfold cntL
  omega
 ·omega
theorem filter_take_len {α : Type} (p : α → Bool) (l : List α) (k : Nat) : ((l.take k).filter p).length ≤ l.length := Nat.le_trans (List.length_filter_le _ _) (by rw [List.length_take]; omega)

def extE (b l d m : Int) (hs : List Int) (x : Int) : Int := if chkL b l d m hs = 0 then (if x ≤ l then 4 else chkL b x d m hs) else chkL b l d m hs
def ext0 (b l d m : Int) (hs : List Int) (x y : Int) : Int := if extE b l d m hs x = 0 then y else 0
def extH (b l d m : Int) (hs : List Int) (x : Int) : List Int := if extE b l d m hs x = 0 then hs else []
theorem win_ok {b l d m w mo : Int} {hs : List Int} (hc : Cal b l d m hs) (hw : 1 ≤ w) (h0 : 0 ≤ mo) (h12 : mo ≤ 12) {q : Nat} (hq : (q : Int) < cntL b l d) :
  0 ≤ min (expT b l d q) 1000000 - expF b d q ∧ 0 ≤ expF b d q ∧ expT b l d q ≤ 1000002 ∧ 0 ≤ (min (expT b l d q) 1000000 - expF b d q) / w ∧ (min (expT b l d q) 1000000 - expF b d q) / w ≤ 1000000 ∧
   0 ≤ mo * ((min (expT b l d q) 1000000 - expF b d q) / w + 1) ∧ mo * ((min (expT b l d q) 1000000 - expF b d q) / w + 1) ≤ 20000000 := by
 obtain ⟨z1, z2, z3⟩ := hc.qn (q := q) (by omega) hq
 obtain ⟨z4, z5⟩ := hc.qn1 (q := q) (by omega) hq
 have a1 := hc.b0
 have a2 := hc.l1
 have a3 := hc.n1
 have a4 := hc.bl
 have e1 : 0 ≤ min (expT b l d q) 1000000 - expF b d q := by unfold expT expF; omega
 have e2 : 0 ≤ expF b d q := by unfold expF; omega
 have e3 : expT b l d q ≤ 1000002 := by unfold expT; omega
 have e4 := Int.ediv_nonneg e1 (by omega : 0 ≤ w)
 have e5 := Int.ediv_le_self w e1
 have e6 : 0 ≤ mo * ((min (expT b l d q) 1000000 - expF b d q) / w + 1) := Int.mul_nonneg h0 (by omega)
 have e7 : mo * ((min (expT b l d q) 1000000 - expF b d q) / w + 1) ≤ 12 * ((min (expT b l d q) 1000000 - expF b d q) / w + 1) := Int.mul_le_mul_of_nonneg_right h12 (by omega)
 exact ⟨e1, e2, e3, e4, by omega, e6, by omega⟩
end Go.Proofs.YtogipicegdbhdaaDoor.S41c

namespace Go.Proofs.YtogipicegdbhdaaDoor.S41c
open Go Go.Proofs.YtogipicegdbhdaaDoor.Vc Go.Proofs
set_option maxRecDepth 100000
set_option linter.unusedVariables false
open Go.Proofs.YtogipicegdbhdaaDoor.S41
def sRdy : List V → Option (Prop × V × List Blk)
 | [.agg [.int .i64 b, .int .i64 l, .int .i64 d, .int .i64 m, .sl false (.int .i64) hs], .int .i64 bad, .sl false (.cons (.int .i64) (.cons (.int .i64) .nil)) a] => some (hs.length ≤ 2000000 ∧ a.length ≤ 2000000, .int .i64 (redL b l d m hs bad a), [])
 | _ => none
set_option maxHeartbeats 1000000 in
theorem bRdy (b : Int) (l : Int) (d : Int) (m : Int) (hs : List Int) (bad : Int) (a : List (Int × (Int × Unit))) (hp0 : hs.length ≤ 2000000) (hp1 : a.length ≤ 2000000) : bodyP (En CSeen tys G6 QAt) Tryd.f36 [.k] [.agg [.int .i64 b, .int .i64 l, .int .i64 d, .int .i64 m, .sl false (.int .i64) hs], .int .i64 bad, .sl false (.cons (.int .i64) (.cons (.int .i64) .nil)) a] (.int .i64 (redL b l d m hs bad a)) [] := by
 refine ⟨rfl, rfl, rfl, rfl, by show hs.length ≤ 2000000; first | omega | assumption, fun h0 => ?_, fun h0 => ?_⟩
 ·replace h0 : (chkL b l d m hs) ≠ 0 := h0
  refine ⟨rfl, rfl, ?_, rfl⟩
  unfold redL
  repeat' split
  all_goals first | rfl | omega | (exfalso; simp_all; done)
 ·replace h0 : ¬ ((chkL b l d m hs) ≠ 0) := h0
  refine ⟨rfl, rfl, rfl, trivial, fun h1 => ?_, fun h1 => ?_⟩
  ·replace h1 : ¬ (0 ≤ bad ∧ bad ≤ 4095) := h1
   refine ⟨rfl, rfl, ?_, rfl⟩
   unfold redL
   repeat' split
   all_goals first | rfl | omega | (exfalso; simp_all; done)
  ·replace h1 : ¬ (¬ (0 ≤ bad ∧ bad ≤ 4095)) := h1
   refine ⟨by show a.length ≤ 2000000; first | omega | assumption, ?_⟩
   refine ⟨rfl, rfl, ?_, rfl⟩
   unfold redL
   repeat' split
   all_goals first | rfl | omega | (exfalso; simp_all; done)
def CRdy : List (Nat × Con) := (36, pureC [.v (.cons (.int .i64) (.cons (.int .i64) (.cons (.int .i64) (.cons (.int .i64) (.cons (.sl (.int .i64)) .nil))))), .v (.int .i64), .v (.sl (.cons (.int .i64) (.cons (.int .i64) .nil)))] sRdy) :: CSeen
theorem kRdy : Known Tryd.prog (En CRdy tys G6 QAt) := kSeen.add Tryd.func36 Tryd.call36 [.k] fun ds p v bs h hp => by
 unfold sRdy at h
 split at h <;> simp only [Option.some.injEq, Prod.mk.injEq, reduceCtorEq] at h
 obtain ⟨rfl, rfl, rfl⟩ := h
 exact bRdy _ _ _ _ _ _ _ hp.1 hp.2
def sNaN : List V → Option (Prop × V × List Blk)
 | [.int .i64 x] => some (True, .b False, [])
 | _ => none
set_option maxHeartbeats 1000000 in
theorem bNaN (x : Int)  : bodyP (En CRdy tys G6 QAt) Tryd.f115 [.k] [.int .i64 x] (.b False) [] := by
 exact ⟨rfl, rfl, congrArg V.b (propext ⟨fun h => h rfl, fun h => h.elim⟩), rfl⟩
def CNaN : List (Nat × Con) := (115, pureC [.v (.int .i64)] sNaN) :: CRdy
theorem kNaN : Known Tryd.prog (En CNaN tys G6 QAt) := kRdy.add Tryd.func115 Tryd.call115 [.k] fun ds p v bs h hp => by
 unfold sNaN at h
 split at h <;> simp only [Option.some.injEq, Prod.mk.injEq, reduceCtorEq] at h
 obtain ⟨rfl, rfl, rfl⟩ := h
 exact bNaN _
def sCmpI : List V → Option (Prop × V × List Blk)
 | [.int .i64 x, .int .i64 y] => some (True, .int .i64 (cmpL x y), [])
 | _ => none
set_option maxHeartbeats 1000000 in
theorem bCmpI (x : Int) (y : Int)  : bodyP (En CNaN tys G6 QAt) Tryd.f110 [.k] [.int .i64 x, .int .i64 y] (.int .i64 (cmpL x y)) [] := by
 refine ⟨rfl, trivial, rfl, trivial, fun h0 => absurd h0 (show ¬ False by exact id), fun h0 => ?_⟩
 refine ⟨fun h1 => absurd h1 (show ¬ False by exact id), fun h1 => ?_⟩
 refine ⟨fun h2 => ?_, fun h2 => ?_⟩
 ·replace h2 : x < y := h2
  refine ⟨rfl, rfl, ?_, rfl⟩
  unfold cmpL
  repeat' split
  all_goals first | rfl | omega | (exfalso; simp_all; done)
 ·replace h2 : ¬ (x < y) := h2
  refine ⟨fun h3 => ?_, fun h3 => ?_⟩
  ·replace h3 : y < x := h3
   refine ⟨rfl, rfl, ?_, rfl⟩
   unfold cmpL
   repeat' split
   all_goals first | rfl | omega | (exfalso; simp_all; done)
  ·replace h3 : ¬ (y < x) := h3
   refine ⟨rfl, rfl, ?_, rfl⟩
   unfold cmpL
   repeat' split
   all_goals first | rfl | omega | (exfalso; simp_all; done)
def CCmpI : List (Nat × Con) := (110, pureC [.v (.int .i64), .v (.int .i64)] sCmpI) :: CNaN
theorem kCmpI : Known Tryd.prog (En CCmpI tys G6 QAt) := kNaN.add Tryd.func110 Tryd.call110 [.k] fun ds p v bs h hp => by
 unfold sCmpI at h
 split at h <;> simp only [Option.some.injEq, Prod.mk.injEq, reduceCtorEq] at h
 obtain ⟨rfl, rfl, rfl⟩ := h
 exact bCmpI _ _
def sCmpS : List V → Option (Prop × V × List Blk)
 | [.sl false (.int .i64) s, .sl false (.int .i64) t] => some (s.length ≤ 2000000 ∧ t.length ≤ 2000000, .int .i64 (cmpS s t), [])
 | _ => none
set_option maxHeartbeats 1000000 in
theorem bCmpS (s : List Int) (t : List Int) (hp0 : s.length ≤ 2000000) (hp1 : t.length ≤ 2000000) : bodyP (En CCmpI tys G6 QAt) Tryd.f92 [.k] [.sl false (.int .i64) s, .sl false (.int .i64) t] (.int .i64 (cmpS s t)) [] := by
 refine ⟨0, [(0, .k), (1, .k), (9, .k), (10, .k), (11, .k)], fun nM vs H => ∃ (k : Nat), k ≤ s.length ∧ k ≤ t.length ∧ cmpS (s.drop k) (t.drop k) = cmpS s t ∧ nM = s.length - k ∧ vs = [.sl false (.int .i64) s, .sl false (.int .i64) t, .sl false (.int .i64) s, .int .i64 (s.length : Int), .int .i64 (k : Int)] ∧ H = [], ⟨rfl, s.length, 0, by omega, by omega, rfl, by omega, rfl, rfl⟩, ?_⟩
 rintro nM vs H ⟨k, hc1_0, hc1_1, hc1_2, rfl, rfl, rfl⟩
 refine ⟨fun h0 => ?_, fun h0 => ?_⟩
 ·replace h0 : (k : Int) < (s.length : Int) := h0
  rw [drop_one 0 s k (by omega)] at hc1_2
  refine ⟨(i0 (k : Int) (s.length : Int)), fun h1 => ?_, fun h1 => ?_⟩
  ·replace h1 : (t.length : Int) ≤ (k : Int) := h1
   rw [List.drop_eq_nil_of_le (by omega : t.length ≤ k), cmpS] at hc1_2
   rw [← hc1_2]
   exact ⟨rfl, rfl, rfl, rfl⟩
  ·replace h1 : ¬ ((t.length : Int) ≤ (k : Int)) := h1
   rw [drop_one 0 t k (by omega), cmpS] at hc1_2
   refine ⟨(i0 (k : Int) (t.length : Int)), rfl, rfl, trivial, fun h2 => ?_, fun h2 => ?_⟩
   ·replace h2 : (cmpL (s.getD k 0) (t.getD k 0)) ≠ 0 := h2
    rw [if_neg h2] at hc1_2
    rw [← hc1_2]
    exact ⟨rfl, rfl, rfl, rfl⟩
   ·replace h2 : ¬ ((cmpL (s.getD k 0) (t.getD k 0)) ≠ 0) := h2
    rw [if_pos (Classical.not_not.1 h2)] at hc1_2
    refine ⟨(r64 ((k : Int) + 1)), ?_⟩
    exact ⟨rfl, s.length - (k + 1), by omega, k + 1, by omega, by omega, hc1_2, rfl, rfl, rfl⟩
 ·replace h0 : ¬ ((k : Int) < (s.length : Int)) := h0
  rw [List.drop_eq_nil_of_le (by omega : s.length ≤ k)] at hc1_2
  refine ⟨fun h3 => ?_, fun h3 => ?_⟩
  ·replace h3 : (s.length : Int) < (t.length : Int) := h3
   rw [drop_one 0 t k (by omega), cmpS] at hc1_2
   rw [← hc1_2]
   exact ⟨rfl, rfl, rfl, rfl⟩
  ·replace h3 : ¬ ((s.length : Int) < (t.length : Int)) := h3
   rw [List.drop_eq_nil_of_le (by omega : t.length ≤ k), cmpS] at hc1_2
   rw [← hc1_2]
   exact ⟨rfl, rfl, rfl, rfl⟩
def CCmpS : List (Nat × Con) := (92, pureC [.v (.sl (.int .i64)), .v (.sl (.int .i64))] sCmpS) :: CCmpI
theorem kCmpS : Known Tryd.prog (En CCmpS tys G6 QAt) := kCmpI.add Tryd.func92 Tryd.call92 [.k] fun ds p v bs h hp => by
 unfold sCmpS at h
 split at h <;> simp only [Option.some.injEq, Prod.mk.injEq, reduceCtorEq] at h
 obtain ⟨rfl, rfl, rfl⟩ := h
 exact bCmpS _ _ hp.1 hp.2
def sCln : List V → Option (Prop × V × List Blk)
 | [.sl false (.int .i64) s] => some (s.length ≤ 2000000, .own (.int .i64) 0, [.row true (.int .i64) (s)])
 | _ => none
set_option maxHeartbeats 1000000 in
theorem bCln (s : List Int) (hp0 : s.length ≤ 2000000) : bodyP (En CCmpS tys G6 QAt) Tryd.f93 [.o (.int .i64)] [.sl false (.int .i64) s] (.own (.int .i64) 0) [.row true (.int .i64) (s)] := by
 refine fun p0 hq0 => ?_
 refine ⟨fun h1 => ?_, fun h1 => ?_⟩
 ·replace h1 : p0 := h1
  have e := hq0 h1
  subst e
  exact ⟨rfl, rfl, rfl, rfl⟩
 ·replace h1 : ¬ p0 := h1
  refine ⟨⟨rfl, rfl⟩, by show ([] : List Int).length + s.length ≤ 1000000000; simp only [List.length_cons, List.length_nil]; omega, ?_⟩
  exact ⟨rfl, rfl, rfl, rfl⟩
def CCln : List (Nat × Con) := (93, pureC [.v (.sl (.int .i64))] sCln) :: CCmpS
theorem kCln : Known Tryd.prog (En CCln tys G6 QAt) := kCmpS.add Tryd.func93 Tryd.call93 [.o (.int .i64)] fun ds p v bs h hp => by
 unfold sCln at h
 split at h <;> simp only [Option.some.injEq, Prod.mk.injEq, reduceCtorEq] at h
 obtain ⟨rfl, rfl, rfl⟩ := h
 exact bCln _ hp
def sSeenS : List V → Option (Prop × V × List Blk)
 | [.agg [.int .i64 b, .int .i64 l, .int .i64 d, .int .i64 m, .sl false (.int .i64) hs], .sl false (.cons (.int .i64) (.cons (.int .i64) .nil)) a, .int .i64 q] => some (hs.length ≤ 2000000 ∧ a.length ≤ 2000000, .tup [.int .i64 (senL b l d m hs a q), .int .i64 (senE b l d m hs a q)], [])
 | _ => none
set_option maxHeartbeats 1000000 in
theorem bSeenS (b : Int) (l : Int) (d : Int) (m : Int) (hs : List Int) (a : List (Int × (Int × Unit))) (q : Int) (hp0 : hs.length ≤ 2000000) (hp1 : a.length ≤ 2000000) : bodyP (En CCln tys G6 QAt) Tryd.f13 [.k, .k] [.agg [.int .i64 b, .int .i64 l, .int .i64 d, .int .i64 m, .sl false (.int .i64) hs], .sl false (.cons (.int .i64) (.cons (.int .i64) .nil)) a, .int .i64 q] (.tup [.int .i64 (senL b l d m hs a q), .int .i64 (senE b l d m hs a q)]) [] := by
 refine ⟨rfl, rfl, rfl, rfl, by show hs.length ≤ 2000000; first | omega | assumption, fun h0 => ?_, fun h0 => ?_⟩
 ·replace h0 : (chkL b l d m hs) ≠ 0 := h0
  rw [show senL b l d m hs a q = 0 from if_neg (fun h => h0 h.1), show senE b l d m hs a q = chkL b l d m hs from if_neg h0]
  exact ⟨rfl, rfl, rfl, rfl⟩
 ·replace h0 : ¬ ((chkL b l d m hs) ≠ 0) := h0
  refine ⟨by show a.length ≤ 2000000; first | omega | assumption, fun h1 => ?_, fun h1 => ?_⟩
  ·replace h1 : (capL a) ≠ 0 := h1
   rw [show senL b l d m hs a q = 0 from if_neg (fun h => h1 h.2.1), show senE b l d m hs a q = capL a by unfold senE; rw [if_pos (Classical.not_not.1 h0), if_neg h1]]
   exact ⟨rfl, rfl, rfl, rfl⟩
  ·replace h1 : ¬ ((capL a) ≠ 0) := h1
   refine ⟨rfl, rfl, rfl, rfl, rfl, by show hs.length ≤ 2000000; first | omega | assumption, fun h2 => ?_, fun h2 => ?_⟩
   ·replace h2 : (askL b l d m hs q) ≠ 0 := h2
    rw [show senL b l d m hs a q = 0 from if_neg (fun h => h2 h.2.2), show senE b l d m hs a q = askL b l d m hs q by unfold senE; rw [if_pos (Classical.not_not.1 h0), if_pos (Classical.not_not.1 h1)]]
    exact ⟨rfl, rfl, rfl, rfl⟩
   ·replace h2 : ¬ ((askL b l d m hs q) ≠ 0) := h2
    obtain ⟨hc, hq0, hq1⟩ := ask0 (Classical.not_not.1 h2)
    obtain ⟨hca1, hca2⟩ := cap0 (Classical.not_not.1 h1)
    obtain ⟨q1, q2, q3, q4, q5, q6, q7, q8, q9, q10, q11⟩ := id hc
    have hml := mk_len (cntL b l d).toNat (seenC b l d hs 0 a)
    have e1 : senL b l d m hs a q = (setF2 (fun i => ((mk (cntL b l d).toNat (seenC b l d hs 0 a)).getD q.toNat (List.replicate 12 false)).getD i false) 12 : Int) := by unfold senL; rw [if_pos ⟨(Classical.not_not.1 h0), (Classical.not_not.1 h1), (Classical.not_not.1 h2)⟩, mk_row_set (N := (cntL b l d).toNat) (q := q.toNat) (by omega)]
    have e2 : senE b l d m hs a q = 0 := by unfold senE; rw [if_pos (Classical.not_not.1 h0), if_pos (Classical.not_not.1 h1)]; exact (Classical.not_not.1 h2)
    refine ⟨rfl, rfl, rfl, rfl, rfl, ⟨by assumption, by omega, by show a.length ≤ 500; first | omega | assumption, by first | assumption | simp⟩, (i0 q ((mk (cntL b l d).toNat (seenC b l d hs 0 a)).length : Int)), 2, [(11, .k), (35, .k), (36, .k)], fun nM vs H => ∃ (k : Nat), k ≤ 12 ∧ nM = 12 - k ∧ vs = [.int .i64 (setF2 (fun i => ((mk (cntL b l d).toNat (seenC b l d hs 0 a)).getD q.toNat (List.replicate 12 false)).getD i false) k : Int), .dat true (.arr 12 .bool) ((mk (cntL b l d).toNat (seenC b l d hs 0 a)).getD q.toNat (List.replicate 12 false)), .int .i64 (k : Int)] ∧ H = [.cells [.int .i64 b, .int .i64 l, .int .i64 d, .int .i64 m, .sl false (.int .i64) hs], .row true (.arr 12 .bool) (mk (cntL b l d).toNat (seenC b l d hs 0 a))], ⟨rfl, 12, 0, by omega, by omega, rfl, rfl⟩, ?_⟩
    rintro nM vs H ⟨k, hc1_0, rfl, rfl, rfl⟩
    refine ⟨fun h3 => ?_, fun h3 => ?_⟩
    ·replace h3 : (k : Int) < 12 := h3
     have hsb := setF2_bound (fun i => ((mk (cntL b l d).toNat (seenC b l d hs 0 a)).getD q.toNat (List.replicate 12 false)).getD i false) hc1_0
     obtain ⟨hp1, hp2⟩ := pow12 k (by omega)
     refine ⟨(i0 (k : Int) (12 : Int)), fun h4 => ?_, fun h4 => ?_⟩
     ·replace h4 : (((mk (cntL b l d).toNat (seenC b l d hs 0 a)).getD q.toNat (List.replicate 12 false)).getD k false) = true := h4
      have e := set_or (f := fun i => ((mk (cntL b l d).toNat (seenC b l d hs 0 a)).getD q.toNat (List.replicate 12 false)).getD i false) (k := k) h4
      refine ⟨⟨by show (0 : Int) ≤ (k : Int); omega, by show (k : Int) ≤ (64 : Int); omega⟩, (r64 (1 * 2 ^ k)), .inl ⟨⟨by show (0 : Int) ≤ (setF2 (fun i => ((mk (cntL b l d).toNat (seenC b l d hs 0 a)).getD q.toNat (List.replicate 12 false)).getD i false) k : Int); omega, by show (0 : Int) ≤ (1 * 2 ^ k); omega⟩, ?_⟩⟩
      refine ⟨(r64 ((k : Int) + 1)), ?_⟩
      first | exact ⟨rfl, 12 - (k + 1), by omega, k + 1, by omega, rfl, by rw [← e]; rfl, rfl⟩ | exact ⟨rfl, 12 - (k + 1), by omega, k + 1, by omega, rfl, by rw [e]; rfl, rfl⟩
     ·replace h4 : ¬ ((((mk (cntL b l d).toNat (seenC b l d hs 0 a)).getD q.toNat (List.replicate 12 false)).getD k false) = true) := h4
      have e := set_no (f := fun i => ((mk (cntL b l d).toNat (seenC b l d hs 0 a)).getD q.toNat (List.replicate 12 false)).getD i false) (k := k) h4
      refine ⟨(r64 ((k : Int) + 1)), ?_⟩
      first | exact ⟨rfl, 12 - (k + 1), by omega, k + 1, by omega, rfl, by rw [← e]; rfl, rfl⟩ | exact ⟨rfl, 12 - (k + 1), by omega, k + 1, by omega, rfl, by rw [e]; rfl, rfl⟩
    ·replace h3 : ¬ ((k : Int) < 12) := h3
     obtain rfl : k = 12 := by omega
     rw [e1, e2]
     exact ⟨rfl, rfl, rfl, rfl⟩
def CSeenS : List (Nat × Con) := (13, pureC [.v (.cons (.int .i64) (.cons (.int .i64) (.cons (.int .i64) (.cons (.int .i64) (.cons (.sl (.int .i64)) .nil))))), .v (.sl (.cons (.int .i64) (.cons (.int .i64) .nil))), .v (.int .i64)] sSeenS) :: CCln
theorem kSeenS : Known Tryd.prog (En CSeenS tys G6 QAt) := kCln.add Tryd.func13 Tryd.call13 [.k, .k] fun ds p v bs h hp => by
 unfold sSeenS at h
 split at h <;> simp only [Option.some.injEq, Prod.mk.injEq, reduceCtorEq] at h
 obtain ⟨rfl, rfl, rfl⟩ := h
 exact bSeenS _ _ _ _ _ _ _ hp.1 hp.2
def sTel : List V → Option (Prop × V × List Blk)
 | [.agg [.int .i64 b, .int .i64 l, .int .i64 d, .int .i64 m, .sl false (.int .i64) hs], .int .i64 bad, .sl false (.cons (.int .i64) (.cons (.int .i64) .nil)) a] => some (hs.length ≤ 2000000 ∧ a.length ≤ 2000000, .tup [.own (.int .i64) 0, .int .i64 (redL b l d m hs bad a)], [.row true (.int .i64) (telL b l d m hs bad a)])
 | _ => none
set_option maxHeartbeats 1000000 in
theorem bTel (b : Int) (l : Int) (d : Int) (m : Int) (hs : List Int) (bad : Int) (a : List (Int × (Int × Unit))) (hp0 : hs.length ≤ 2000000) (hp1 : a.length ≤ 2000000) : bodyP (En CSeenS tys G6 QAt) Tryd.f12 [.o (.int .i64), .k] [.agg [.int .i64 b, .int .i64 l, .int .i64 d, .int .i64 m, .sl false (.int .i64) hs], .int .i64 bad, .sl false (.cons (.int .i64) (.cons (.int .i64) .nil)) a] (.tup [.own (.int .i64) 0, .int .i64 (redL b l d m hs bad a)]) [.row true (.int .i64) (telL b l d m hs bad a)] := by
 refine ⟨rfl, rfl, rfl, rfl, rfl, ⟨by show hs.length ≤ 2000000; first | omega | assumption, by show a.length ≤ 2000000; first | omega | assumption⟩, fun h0 => ?_, fun h0 => ?_⟩
 ·replace h0 : (redL b l d m hs bad a) ≠ 0 := h0
  rw [show telL b l d m hs bad a = [] from if_neg h0]
  exact ⟨rfl, rfl, rfl, rfl⟩
 ·replace h0 : ¬ ((redL b l d m hs bad a) ≠ 0) := h0
  obtain ⟨hc, hb0, hb1, hca1, hca2⟩ := red0 (Classical.not_not.1 h0)
  obtain ⟨q1, q2, q3, q4, q5, q6, q7, q8, q9, q10, q11⟩ := id hc
  obtain ⟨N, hN⟩ : ∃ N : Nat, cntL b l d = (N : Int) := ⟨(cntL b l d).toNat, by omega⟩
  have hml := mk_len (cntL b l d).toNat (seenC b l d hs bad a)
  refine ⟨rfl, rfl, rfl, rfl, rfl, ⟨by assumption, by show 0 ≤ bad; first | omega | assumption, by show a.length ≤ 500; first | omega | assumption, by first | assumption | simp⟩, 2, [(3, .k), (9, .o (.int .i64)), (22, .o (.arr 12 .bool)), (23, .k), (24, .k)], fun nM vs H => ∃ (k : Nat), k ≤ N ∧ nM = N - k ∧ vs = [.ptr 0 1 0 0, .own (.int .i64) 2, .own (.arr 12 .bool) 1, .int .i64 (((mk (cntL b l d).toNat (seenC b l d hs bad a)).length : Nat) : Int), .int .i64 (k : Int)] ∧ H = [.cells [.int .i64 b, .int .i64 l, .int .i64 d, .int .i64 m, .sl false (.int .i64) hs], .row true (.arr 12 .bool) (mk (cntL b l d).toNat (seenC b l d hs bad a)), .row true (.int .i64) (telG b l d m hs bad a k)], ⟨rfl, N, 0, by omega, by omega, rfl, rfl⟩, ?_⟩
  rintro nM vs H ⟨k, hc1_0, rfl, rfl, rfl⟩
  refine ⟨fun h1 => ?_, fun h1 => ?_⟩
  ·replace h1 : (k : Int) < (((mk (cntL b l d).toNat (seenC b l d hs bad a)).length : Nat) : Int) := h1
   have htl := telG_len b l d m hs bad a k
   have hrl := mk_row_len (F := seenC b l d hs bad a) (N := (cntL b l d).toNat) (q := k) (by omega) (List.replicate 12 false)
   have hcnt := mk_row_cnt (F := seenC b l d hs bad a) (N := (cntL b l d).toNat) (q := k) (by omega) (List.replicate 12 false)
   refine ⟨(i0 (k : Int) ((mk (cntL b l d).toNat (seenC b l d hs bad a)).length : Int)), ⟨rfl, rfl, rfl, by first | assumption | rfl | simp, rfl⟩, by kernel_rfl, by first | assumption | rfl | simp, by exact mk_row_len (N := (cntL b l d).toNat) (by omega) _, fun h2 => ?_, fun h2 => ?_⟩
   ·replace h2 : m ≤ (cntF (fun i => ((mk (cntL b l d).toNat (seenC b l d hs bad a)).getD k (List.replicate 12 false)).getD i false) 12 : Int) := h2
    rw [hcnt] at h2
    have tp : telP b l d m hs bad a k = true := decide_eq_true h2
    refine ⟨rfl, ⟨rfl, rfl⟩, by show (telG b l d m hs bad a k).length + ([(k : Int)] : List Int).length ≤ 1000000000; simp only [List.length_cons, List.length_nil]; omega, (r64 ((k : Int) + 1)), ?_⟩
    first | exact ⟨rfl, N - (k + 1), by omega, k + 1, by omega, rfl, rfl, by rw [telG_succ, if_pos tp]; rfl⟩ | exact ⟨rfl, N - (k + 1), by omega, k + 1, by omega, rfl, rfl, by rw [telG_succ, if_neg tp, List.append_nil]; rfl⟩
   ·replace h2 : ¬ (m ≤ (cntF (fun i => ((mk (cntL b l d).toNat (seenC b l d hs bad a)).getD k (List.replicate 12 false)).getD i false) 12 : Int)) := h2
    rw [hcnt] at h2
    have tp : ¬ telP b l d m hs bad a k = true := by unfold telP; rw [decide_eq_true_eq]; exact h2
    refine ⟨(r64 ((k : Int) + 1)), ?_⟩
    first | exact ⟨rfl, N - (k + 1), by omega, k + 1, by omega, rfl, rfl, by rw [telG_succ, if_pos tp]; rfl⟩ | exact ⟨rfl, N - (k + 1), by omega, k + 1, by omega, rfl, rfl, by rw [telG_succ, if_neg tp, List.append_nil]; rfl⟩
  ·replace h1 : ¬ ((k : Int) < (((mk (cntL b l d).toNat (seenC b l d hs bad a)).length : Nat) : Int)) := h1
   rw [show telL b l d m hs bad a = telG b l d m hs bad a k by rw [telL, if_pos (Classical.not_not.1 h0), show (cntL b l d).toNat = k by omega], (Classical.not_not.1 h0)]
   exact ⟨rfl, rfl, rfl, rfl⟩
def CTel : List (Nat × Con) := (12, pureC [.v (.cons (.int .i64) (.cons (.int .i64) (.cons (.int .i64) (.cons (.int .i64) (.cons (.sl (.int .i64)) .nil))))), .v (.int .i64), .v (.sl (.cons (.int .i64) (.cons (.int .i64) .nil)))] sTel) :: CSeenS
theorem kTel : Known Tryd.prog (En CTel tys G6 QAt) := kSeenS.add Tryd.func12 Tryd.call12 [.o (.int .i64), .k] fun ds p v bs h hp => by
 unfold sTel at h
 split at h <;> simp only [Option.some.injEq, Prod.mk.injEq, reduceCtorEq] at h
 obtain ⟨rfl, rfl, rfl⟩ := h
 exact bTel _ _ _ _ _ _ _ hp.1 hp.2
end Go.Proofs.YtogipicegdbhdaaDoor.S41c

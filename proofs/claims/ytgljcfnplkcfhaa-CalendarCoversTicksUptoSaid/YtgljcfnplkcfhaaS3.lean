/- Texts of this claim: S29.Pf. -/
import Derived.Test.YtgljcfnplkcfhaaS2
set_option linter.unusedVariables false
set_option linter.unusedSimpArgs false
namespace Go.Proofs.Ytgljcfnplkcfhaa.S29
open Go

/-! ### sets of houses, as sums over the list -/
def pwN (k : Nat) : Int := 2 ^ k
theorem pwN_succ (k : Nat) : 2 * pwN k = pwN (k + 1) := by unfold pwN; rw [Int.pow_succ]; omega
theorem pwN_bd : ∀ k, k ≤ 12 → 1 ≤ pwN k ∧ pwN k ≤ 4096 := by decide
theorem pwN_bd11 : ∀ k, k ≤ 11 → 1 ≤ pwN k ∧ pwN k ≤ 2048 := by decide
theorem pwN_nat (k : Nat) : pwN k = ((2 ^ k : Nat) : Int) := by simp [pwN]
def cpdB (l : List Cp) (h f t : Int) : Bool := l.any fun x => decide (x.1 = h ∧ f ≤ x.2.1 ∧ x.2.1 ≤ t)
def setS (f : Nat → Bool) : List Int → Int
  | [] => 0
  | h :: t => (if f h.toNat = true then pwN h.toNat else 0) + setS f t
def cntS (f : Nat → Bool) : List Int → Nat
  | [] => 0
  | h :: t => (if f h.toNat = true then 1 else 0) + cntS f t
theorem setS_app (f : Nat → Bool) : ∀ a b : List Int, setS f (a ++ b) = setS f a + setS f b
  | [], b => by simp [setS]
  | h :: t, b => by rw [List.cons_append, setS, setS, setS_app f t b]; omega
theorem cntS_app (f : Nat → Bool) : ∀ a b : List Int, cntS f (a ++ b) = cntS f a + cntS f b
  | [], b => by simp [cntS]
  | h :: t, b => by rw [List.cons_append, cntS, cntS, cntS_app f t b]; omega
theorem setS_snoc (f : Nat → Bool) {l : List Int} {k : Nat} (hk : k < l.length) : setS f (l.take (k + 1)) = setS f (l.take k) + (if f (l.getD k 0).toNat = true then pwN (l.getD k 0).toNat else 0) := by
  rw [take_snoc 0 l k hk, setS_app, setS, setS]; omega
theorem cntS_snoc (f : Nat → Bool) {l : List Int} {k : Nat} (hk : k < l.length) : cntS f (l.take (k + 1)) = cntS f (l.take k) + (if f (l.getD k 0).toNat = true then 1 else 0) := by
  rw [take_snoc 0 l k hk, cntS_app, cntS, cntS]; omega
theorem cntS_le (f : Nat → Bool) : ∀ l : List Int, cntS f l ≤ l.length
  | [] => Nat.le_refl _
  | h :: t => by have := cntS_le f t; rw [cntS, List.length_cons]; split <;> omega
theorem hsF_all : ∀ (l : List Int) (p : Int), hsF p l = true → ∀ x ∈ l, p < x ∧ 0 ≤ x ∧ x ≤ 11
  | [], p, _, x, hx => by simp at hx
  | h :: t, p, hh, x, hx => by
    simp only [hsF, Bool.and_eq_true, decide_eq_true_eq] at hh
    rcases List.mem_cons.1 hx with rfl | hx
    · exact ⟨hh.1.2.2, hh.1.1, hh.1.2.1⟩
    · have := hsF_all t h hh.2 x hx
      omega
theorem setS_bd (f : Nat → Bool) : ∀ l : List Int, (∀ x ∈ l, 0 ≤ x ∧ x ≤ 11) → 0 ≤ setS f l ∧ setS f l ≤ 2048 * l.length
  | [], _ => by simp [setS]
  | h :: t, hh => by
    have h1 := setS_bd f t fun x hx => hh x (by simp [hx])
    have h2 := hh h (by simp)
    have h3 := pwN_bd11 h.toNat (by omega)
    rw [setS, List.length_cons]
    split <;> omega
theorem setF2_ins {f : Nat → Bool} {h : Nat} {b : Bool} (hf : f h = false) : ∀ k, h < k → setF2 (fun i => if i = h then b else f i) k = setF2 f k + (if b = true then 2 ^ h else 0)
  | 0, hk => by omega
  | k + 1, hk => by
    rw [setF2, setF2]
    by_cases e : h = k
    · subst e
      rw [setF2_congr (g := f) fun i hi => if_neg (by omega), if_pos rfl, hf]
      simp
    · rw [setF2_ins hf k (by omega), if_neg (show ¬ k = h by omega)]
      omega
theorem cntF_ins {f : Nat → Bool} {h : Nat} {b : Bool} (hf : f h = false) : ∀ k, h < k → cntF (fun i => if i = h then b else f i) k = cntF f k + (if b = true then 1 else 0)
  | 0, hk => by omega
  | k + 1, hk => by
    rw [cntF, cntF]
    by_cases e : h = k
    · subst e
      rw [cntF_congr (g := f) fun i hi => if_neg (by omega), if_pos rfl, hf]
      simp
    · rw [cntF_ins hf k (by omega), if_neg (show ¬ k = h by omega)]
      omega
theorem cons_ins {f : Nat → Bool} {h : Int} {t : List Int} (h0 : 0 ≤ h) (i : Nat) : ((h :: t).contains (i : Int) && f i) = if i = h.toNat then f h.toNat else (t.contains (i : Int) && f i) := by
  by_cases e : i = h.toNat
  · rw [if_pos e, e, show ((h.toNat : Nat) : Int) = h by omega]; simp
  · rw [if_neg e, List.contains_cons, show ((i : Int) == h) = false by simp; omega]; simp
theorem not_tail {f : Nat → Bool} {h : Int} {t : List Int} (h0 : 0 ≤ h) (hh : hsF h t = true) : (t.contains ((h.toNat : Nat) : Int) && f h.toNat) = false := by
  have : ¬ ((h.toNat : Nat) : Int) ∈ t := fun hm => by have := (hsF_all t h hh _ hm).1; omega
  rw [show t.contains ((h.toNat : Nat) : Int) = false by rw [← Bool.not_eq_true, List.contains_iff_mem]; exact this]; rfl
theorem setS_eq (f : Nat → Bool) : ∀ (l : List Int) (p : Int), hsF p l = true → setS f l = (setF2 (fun i => l.contains (i : Int) && f i) 12 : Int)
  | [], p, _ => by
    have : ∀ k, setF2 (fun i => ([] : List Int).contains (i : Int) && f i) k = 0 := fun k => by induction k with
      | zero => rfl
      | succ k ih => rw [setF2, ih]; simp
    rw [this]; rfl
  | h :: t, p, hh => by
    simp only [hsF, Bool.and_eq_true, decide_eq_true_eq] at hh
    rw [setF2_congr fun i _ => cons_ins (f := f) (t := t) hh.1.1 i, setF2_ins (not_tail hh.1.1 hh.2) 12 (by omega), setS, setS_eq f t h hh.2, pwN_nat]
    split <;> simp <;> omega
theorem cntS_eq (f : Nat → Bool) : ∀ (l : List Int) (p : Int), hsF p l = true → cntS f l = cntF (fun i => l.contains (i : Int) && f i) 12
  | [], p, _ => by
    have : ∀ k, cntF (fun i => ([] : List Int).contains (i : Int) && f i) k = 0 := fun k => by induction k with
      | zero => rfl
      | succ k ih => rw [cntF, ih]; simp
    rw [this]; rfl
  | h :: t, p, hh => by
    simp only [hsF, Bool.and_eq_true, decide_eq_true_eq] at hh
    rw [cntF_congr fun i _ => cons_ins (f := f) (t := t) hh.1.1 i, cntF_ins (not_tail hh.1.1 hh.2) 12 (by omega), cntS, cntS_eq f t h hh.2]
    omega
theorem setF2_bit (f : Nat → Bool) : ∀ (k h : Nat), h < k → Nat.testBit (setF2 f k) h = f h
  | 0, h, hk => by omega
  | k + 1, h, hk => by
    have hlt := setF2_lt f k
    rw [setF2]
    by_cases e : h = k
    · subst e
      split
      · rename_i hf
        rw [← setF2_or, Nat.testBit_or, Nat.testBit_lt_two_pow hlt, Nat.testBit_two_pow_self, hf]; rfl
      · rename_i hf
        rw [Nat.add_zero, Nat.testBit_lt_two_pow hlt]
        simpa using hf
    · split
      · rw [← setF2_or, Nat.testBit_or, Nat.testBit_two_pow_of_ne (by omega), Bool.or_false, setF2_bit f k h (by omega)]
      · rw [Nat.add_zero, setF2_bit f k h (by omega)]
theorem bitB_nat (n h : Nat) : bitB (n : Int) h = Nat.testBit n h := by
  unfold bitB
  rw [Nat.testBit_eq_decide_div_mod_eq]
  have : ((n : Int) / 2 ^ h % 2) = ((n / 2 ^ h % 2 : Nat) : Int) := by simp
  rw [this]
  simp only [decide_eq_decide]
  omega
theorem bitB_set (f : Nat → Bool) {h : Nat} (hh : h < 12) : bitB (setF2 f 12 : Int) h = f h := by rw [bitB_nat, setF2_bit f 12 h hh]
theorem bitB_zero (h : Nat) : bitB 0 h = false := by
  have := bitB_nat 0 h
  rw [Nat.zero_testBit] at this
  exact this
theorem cpd_cap (b l d : Int) (q h : Nat) (caps : List Cp) : cpdB caps (h : Int) (expF b d q) (expT b l d q) = caps.any (capIn b l d q h) := by
  unfold cpdB
  congr 1
  funext x
  unfold capIn exB
  rw [Bool.decide_and]
theorem sen_set {b l d m : Int} {hs : List Int} (hc : Cal b l d m hs) (caps : List Cp) (q : Nat) :
    setS (fun h => cpdB caps (h : Int) (expF b d q) (expT b l d q)) hs = (setF2 (seenC b l d hs 0 caps q) 12 : Int) := by
  rw [setS_eq _ hs (-1) hc.ho]
  congr 1
  exact setF2_congr fun i _ => by unfold seenC; rw [bitB_zero, Bool.false_or, cpd_cap]
theorem sen_set' {b l d m : Int} {hs : List Int} (hc : Cal b l d m hs) (caps : List Cp) {q : Int} (h0 : 0 ≤ q) :
    setS (fun h => cpdB caps (h : Int) (expF b d q) (expT b l d q)) hs = (setF2 (seenC b l d hs 0 caps q.toNat) 12 : Int) := by
  have e : ((q.toNat : Nat) : Int) = q := by omega
  rw [← sen_set hc caps q.toNat, e]
theorem sen_nonneg (b l d m hs caps q) : 0 ≤ senL b l d m hs caps q := by
  unfold senL
  split
  · exact Int.natCast_nonneg _
  · exact Int.le_refl _
theorem sen_val {b l d m : Int} {hs : List Int} (hc : Cal b l d m hs) {caps : List Cp} (h : capL caps = 0) {k : Nat} (hk : (k : Int) < cntL b l d) : senL b l d m hs caps k = (setF2 (seenC b l d hs 0 caps k) 12 : Int) :=
  if_pos ⟨hc.chk, h, hc.ask (by omega) hk⟩
theorem tel_many {b l d m : Int} {hs : List Int} (hc : Cal b l d m hs) (bad : Int) (caps : List Cp) (q : Nat) {x : Int} (hx : x = (setF2 (seenC b l d hs 0 caps q) 12 : Int)) :
    cntS (fun h => bitB bad h || bitB x h) hs = cntF (seenC b l d hs bad caps q) 12 := by
  rw [cntS_eq _ hs (-1) hc.ho, hx]
  refine cntF_congr fun i hi => ?_
  rw [bitB_set _ hi]
  unfold seenC
  rw [bitB_zero]
  cases hs.contains (i : Int) <;> simp
theorem knw_many {b l d m : Int} {hs : List Int} (hc : Cal b l d m hs) (bad : Int) : cntS (fun h => bitB bad h || bitB 0 h) hs = knwL b l d hs bad := by
  rw [cntS_eq _ hs (-1) hc.ho]
  refine cntF_congr fun i hi => ?_
  unfold seenC
  rw [bitB_zero]
  simp
theorem knw_le {b l d m : Int} {hs : List Int} (hc : Cal b l d m hs) (bad : Int) : knwL b l d hs bad ≤ hs.length := by
  rw [← knw_many hc]; exact cntS_le _ _
theorem any_take_no {α : Type} {d : α} {p : α → Bool} {l : List α} {k : Nat} (hk : k < l.length) (hc : (l.take k).any p = false) (h : p (l.getD k d) = false) : (l.take (k + 1)).any p = false := by
  rw [take_snoc d l k hk, List.any_append, hc]; simp only [List.any_cons, List.any_nil, h, Bool.or_false]
theorem any_yes {α : Type} {d : α} {p : α → Bool} {l : List α} {k : Nat} (hk : k < l.length) (h : p (l.getD k d) = true) : l.any p = true :=
  List.any_eq_true.2 ⟨_, getD_mem d l k hk, h⟩

theorem lokW_len (b l d m hs held t) : (lokW b l d m hs held t).length ≤ held.length := by
  unfold lokW; split
  · exact List.length_filter_le _ _
  · exact Nat.zero_le _
theorem lokT_len (b l d m hs held t) : (lokT b l d m hs held t).length ≤ held.length := by
  unfold lokT; split
  · exact List.length_filter_le _ _
  · exact Nat.zero_le _
theorem lokR_len (b l d m hs held t) : (lokR b l d m hs held t).length ≤ held.length := by
  unfold lokR; split
  · exact List.length_filter_le _ _
  · exact Nat.zero_le _
/-! ### windows -/
theorem win_in {b l d w : Int} {q : Nat} {j : Nat} (hw : 1 ≤ w) : expF b d q + j * w ≤ min (expT b l d q) 1000000 ↔ (j : Int) < winL b l d w q := by
  unfold winL
  rw [Int.lt_add_one_iff, Int.le_ediv_iff_mul_le (by omega)]
  omega
theorem win_end {len kn mo W : Int} {j : Nat} (hm : 0 ≤ mo) (hj : (j : Int) ≤ W) (hkn : kn ≤ len) (h : (j : Int) = W ∨ len ≤ min len (kn + mo * j)) : min len (kn + mo * j) = kn + min (len - kn) (mo * W) := by
  rcases h with h | h
  · rw [h]; omega
  · have := Int.mul_le_mul_of_nonneg_left hj hm
    omega
theorem mul_next (mo : Int) (j : Nat) : mo * ((j + 1 : Nat) : Int) = mo * j + mo := by
  rw [show ((j + 1 : Nat) : Int) = (j : Int) + 1 by omega, Int.mul_add, Int.mul_one]
theorem mul_next' (w : Int) (j : Nat) : ((j + 1 : Nat) : Int) * w = j * w + w := by
  rw [Int.mul_comm, mul_next, Int.mul_comm]
end Go.Proofs.Ytgljcfnplkcfhaa.S29

/- Texts of this claim: S38.CPa. -/
import Derived.Test.YtgljcfnplkcfhaaVc9
set_option linter.unusedVariables false
set_option linter.unusedSimpArgs false
namespace Go.Proofs.Ytgljcfnplkcfhaa.S38c
open Go

def cntL (b l n : Int) : Int := (l - b) / n + 1
def hsF : Int → List Int → Bool
  | _, [] => true
  | p, h :: t => decide (0 ≤ h ∧ h ≤ 11 ∧ p < h) && hsF h t
def chkL (b l n m : Int) (hs : List Int) : Int :=
  if 0 ≤ b ∧ b ≤ 1000000 ∧ b ≤ l ∧ l ≤ 1000000 ∧ 1 ≤ n ∧ n ≤ 1000000 then
    (if 500 < cntL b l n then 2 else if hsF (-1) hs = true then (if 1 ≤ m ∧ m ≤ hs.length then 0 else 3) else 1)
  else 3

/-- What is so of a calendar that is right. -/
structure Cal (b l n m : Int) (hs : List Int) : Prop where
  b0 : 0 ≤ b
  bl : b ≤ l
  l1 : l ≤ 1000000
  n1 : 1 ≤ n
  n2 : n ≤ 1000000
  c1 : 1 ≤ cntL b l n
  c2 : cntL b l n ≤ 500
  ho : hsF (-1) hs = true
  m1 : 1 ≤ m
  m2 : m ≤ List.length hs
  h12 : List.length hs ≤ 12

theorem hsF_len : ∀ (l : List Int) (p : Int), -1 ≤ p → hsF p l = true → p ≤ 11 → (List.length l : Int) ≤ 11 - p
  | [], p, _, _, hp => by simp only [List.length_nil]; omega
  | h :: t, p, h0, hh, hp => by
    simp only [hsF, Bool.and_eq_true, decide_eq_true_eq] at hh
    have := hsF_len t h (by omega) hh.2 (by omega)
    simp only [List.length_cons]; omega

theorem chk0 {b l n m : Int} {hs : List Int} (h : chkL b l n m hs = 0) : Cal b l n m hs := by
  unfold chkL at h
  split at h
  · rename_i h1
    split at h
    · omega
    · rename_i h2
      split at h
      · rename_i h3
        split at h
        · rename_i h4
          obtain ⟨a1, a2, a3, a4, a5, a6⟩ := h1
          have := hsF_len hs (-1) (by omega) h3 (by omega)
          exact ⟨a1, a3, a4, a5, a6, by unfold cntL; have := Int.ediv_nonneg (a := l - b) (b := n) (by omega) (by omega); omega, by omega, h3, h4.1, h4.2, by omega⟩
        · omega
      · omega
  · omega
theorem Cal.chk {b l n m : Int} {hs : List Int} (h : Cal b l n m hs) : chkL b l n m hs = 0 := by
  unfold chkL
  rw [if_pos ⟨h.b0, by have := h.bl; have := h.l1; omega, h.bl, h.l1, h.n1, h.n2⟩, if_neg (by have := h.c2; omega), if_pos h.ho, if_pos ⟨h.m1, h.m2⟩]

def spanF (b n q : Int) : Int := b + q * n
def spanT (b l n q : Int) : Int := min l (b + q * n + n - 1)
def expF (b n q : Int) : Int := b + max 0 (q - 1) * n
def expT (b l n q : Int) : Int := min l (b + q * n + n - 1) + 2
def perL (b l n m : Int) (hs : List Int) (t : Int) : Int := if chkL b l n m hs = 0 ∧ b ≤ t ∧ t ≤ l then (t - b) / n else -1
def askL (b l n m : Int) (hs : List Int) (q : Int) : Int := if chkL b l n m hs = 0 then (if 0 ≤ q ∧ q ≤ cntL b l n - 1 then 0 else 8) else chkL b l n m hs

theorem ask0 {b l n m : Int} {hs : List Int} {q : Int} (h : askL b l n m hs q = 0) : Cal b l n m hs ∧ 0 ≤ q ∧ q < cntL b l n := by
  unfold askL at h
  split at h
  · rename_i h1
    split at h
    · exact ⟨chk0 h1, by omega, by omega⟩
    · omega
  · contradiction
theorem Cal.ask {b l n m : Int} {hs : List Int} (h : Cal b l n m hs) {q : Int} (h0 : 0 ≤ q) (h1 : q < cntL b l n) : askL b l n m hs q = 0 := by
  unfold askL
  rw [if_pos h.chk, if_pos ⟨h0, by omega⟩]

theorem qn_ok {b l n q : Int} (hb : b ≤ l) (hn : 1 ≤ n) (h0 : 0 ≤ q) (h1 : q < cntL b l n) : 0 ≤ q * n ∧ q * n ≤ l - b ∧ q ≤ q * n := by
  have h5 : q * 1 ≤ q * n := Int.mul_le_mul_of_nonneg_left hn h0
  suffices q * n ≤ l - b from ⟨Int.mul_nonneg h0 (by omega), this, by omega⟩
  have h2 : q ≤ (l - b) / n := by unfold cntL at h1; omega
  have h3 : q * n ≤ ((l - b) / n) * n := Int.mul_le_mul_of_nonneg_right h2 (by omega)
  have h4 := Int.ediv_mul_le (l - b) (b := n) (by omega)
  omega
theorem Cal.qn {b l n m : Int} {hs : List Int} (h : Cal b l n m hs) {q : Int} (h0 : 0 ≤ q) (h1 : q < cntL b l n) : 0 ≤ q * n ∧ q * n ≤ l - b ∧ q ≤ q * n := qn_ok h.bl h.n1 h0 h1
theorem Cal.qn1 {b l n m : Int} {hs : List Int} (h : Cal b l n m hs) {q : Int} (h0 : 0 ≤ q) (h1 : q < cntL b l n) : 0 ≤ max 0 (q - 1) * n ∧ max 0 (q - 1) * n ≤ q * n :=
  ⟨Int.mul_nonneg (by omega) (by have := h.n1; omega), Int.mul_le_mul_of_nonneg_right (by omega) (by have := h.n1; omega)⟩

theorem drop_one {α : Type} (d : α) (l : List α) (k : Nat) (h : k < l.length) : l.drop k = l.getD k d :: l.drop (k + 1) := by
  rw [List.drop_eq_getElem_cons h]
  simp [List.getD_eq_getElem?_getD, h]
theorem take_snoc {α : Type} (d : α) (l : List α) (k : Nat) (h : k < l.length) : l.take (k + 1) = l.take k ++ [l.getD k d] := by
  rw [List.take_succ_eq_append_getElem h]
  simp [List.getD_eq_getElem?_getD, h]

/-- The one before, in a list of houses. -/
def prv (hs : List Int) (k : Nat) : Int := if k = 0 then -1 else hs.getD (k - 1) 0
theorem prv_pos (hs : List Int) {k : Nat} (h : 0 < k) : prv hs k = hs.getD (k - 1) 0 := if_neg (by omega)
theorem prv_zero (hs : List Int) {k : Nat} (h : ¬ 0 < k) : prv hs k = -1 := if_pos (by omega)
theorem hs_bad {hs : List Int} {k : Nat} (hk : k < hs.length) (hc : hsF (prv hs k) (hs.drop k) = hsF (-1) hs) (h : ¬ (0 ≤ hs.getD k 0 ∧ hs.getD k 0 ≤ 11 ∧ prv hs k < hs.getD k 0)) : hsF (-1) hs = false := by
  rw [← hc, drop_one 0 hs k hk, hsF, decide_eq_false h, Bool.false_and]
theorem hs_next {hs : List Int} {k : Nat} (hk : k < hs.length) (hc : hsF (prv hs k) (hs.drop k) = hsF (-1) hs) (h : 0 ≤ hs.getD k 0 ∧ hs.getD k 0 ≤ 11 ∧ prv hs k < hs.getD k 0) : hsF (prv hs (k + 1)) (hs.drop (k + 1)) = hsF (-1) hs := by
  rw [← hc, drop_one 0 hs k hk, hsF, decide_eq_true h, Bool.true_and]; rfl
theorem hs_end {hs : List Int} {k : Nat} (hk : k = hs.length) (hc : hsF (prv hs k) (hs.drop k) = hsF (-1) hs) : hsF (-1) hs = true := by
  rw [← hc, hk, List.drop_length]; rfl
end Go.Proofs.Ytgljcfnplkcfhaa.S38c

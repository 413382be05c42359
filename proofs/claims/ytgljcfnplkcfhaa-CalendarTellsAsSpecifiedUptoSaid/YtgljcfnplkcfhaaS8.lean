/- Texts of this claim: S29.Pj, S29.Pk, S29.R5, S29.L7, S29.Cd0. -/
import Derived.Test.YtgljcfnplkcfhaaS7
import Derived.Test.YtgljcfnplkcfhaaS5
import Derived.Test.YtgljcfnplkcfhaaRows
import Derived.WalkKit
import Derived.ProofKit
import Derived.OpenShut
import Derived.Deep.DeepHandedRow
import Derived.Lib.LaidTab
import Derived.Test.YtgljcfnplkcfhaaVc8
import Derived.Test.YtgljcfnplkcfhaaS0
set_option linter.unusedVariables false
set_option linter.unusedSimpArgs false
namespace Go.Proofs.Ytgljcfnplkcfhaa.S29
open Go

/-! ### the fewest captures, tried one choice after the other -/
def lo (s : List Int) : Nat := if s.length = 0 then 0 else (s.getD (s.length - 1) 0 + 1).toNat
def dfsK (f : Nat → Option (List Int)) : Nat → Nat → Option (List Int)
  | _, 0 => none
  | k, c + 1 => match f k with | some r => some r | none => dfsK f (k + 1) c
def dfs (P : List Int → Bool) (N : Nat) : Nat → List Int → Option (List Int)
  | 0, s => if P s = true then some s else none
  | n + 1, s => dfsK (fun k => dfs P N n (s ++ [(k : Int)])) (lo s) (N - lo s)
def ExtS (N n : Nat) (s S : List Int) : Prop := ∃ t, S = s ++ t ∧ t.length = n ∧ t.Pairwise (· < ·) ∧ ∀ i ∈ t, (lo s : Int) ≤ i ∧ i < N
theorem lo_snoc (s : List Int) (k : Nat) : lo (s ++ [(k : Int)]) = k + 1 := by
  unfold lo
  rw [List.length_append, List.length_cons, List.length_nil, if_neg (by omega)]
  have : (s ++ [(k : Int)]).getD (s.length + (0 + 1) - 1) 0 = (k : Int) := by simp [List.getD_eq_getElem?_getD]
  rw [this]; omega
theorem dfsK_some {f : Nat → Option (List Int)} {r : List Int} : ∀ {c k : Nat}, dfsK f k c = some r → ∃ j, k ≤ j ∧ j < k + c ∧ f j = some r ∧ ∀ i, k ≤ i → i < j → f i = none
  | 0, k, h => by simp [dfsK] at h
  | c + 1, k, h => by
    unfold dfsK at h
    cases hf : f k with
    | some r' =>
      rw [hf] at h
      exact ⟨k, Nat.le_refl _, by omega, by rw [hf]; exact h, fun i h1 h2 => by omega⟩
    | none =>
      rw [hf] at h
      obtain ⟨j, h1, h2, h3, h4⟩ := dfsK_some h
      exact ⟨j, by omega, by omega, h3, fun i h5 h6 => by
        rcases Nat.lt_or_ge k i with g | g
        · exact h4 i (by omega) h6
        · have : i = k := by omega
          subst this; exact hf⟩
theorem dfsK_none {f : Nat → Option (List Int)} : ∀ {c k : Nat}, dfsK f k c = none → ∀ i, k ≤ i → i < k + c → f i = none
  | 0, k, _, i, h1, h2 => by omega
  | c + 1, k, h, i, h1, h2 => by
    unfold dfsK at h
    cases hf : f k with
    | some r' => rw [hf] at h; cases h
    | none =>
      rw [hf] at h
      rcases Nat.lt_or_ge k i with g | g
      · exact dfsK_none h i (by omega) (by omega)
      · have : i = k := by omega
        subst this; exact hf
theorem ext_up {N n k : Nat} {s S : List Int} (h : ExtS N n (s ++ [(k : Int)]) S) (h1 : lo s ≤ k) (h2 : k < N) : ExtS N (n + 1) s S := by
  obtain ⟨t, e1, e2, e3, e4⟩ := h
  rw [lo_snoc] at e4
  refine ⟨(k : Int) :: t, by rw [e1]; simp, by rw [List.length_cons, e2], List.pairwise_cons.2 ⟨fun i hi => by have := (e4 i hi).1; omega, e3⟩, fun i hi => ?_⟩
  rcases List.mem_cons.1 hi with rfl | hi
  · omega
  · have := e4 i hi; omega
theorem ext_down {N n : Nat} {s S : List Int} (h : ExtS N (n + 1) s S) : ∃ k : Nat, lo s ≤ k ∧ k < N ∧ ExtS N n (s ++ [(k : Int)]) S ∧ ∃ t, S = s ++ (k : Int) :: t := by
  obtain ⟨t, e1, e2, e3, e4⟩ := h
  cases t with
  | nil => simp at e2
  | cons x t =>
    have hx := e4 x (by simp)
    obtain ⟨k, rfl⟩ : ∃ k : Nat, x = (k : Int) := ⟨x.toNat, by omega⟩
    obtain ⟨p1, p2⟩ := List.pairwise_cons.1 e3
    refine ⟨k, by omega, by omega, ⟨t, by rw [e1]; simp, by simpa using e2, p2, fun i hi => ?_⟩, t, e1⟩
    rw [lo_snoc]
    have := p1 i hi
    have := e4 i (by simp [hi])
    omega
theorem dfs_ok {P : List Int → Bool} {N : Nat} : ∀ {n : Nat} {s r : List Int}, dfs P N n s = some r → ExtS N n s r ∧ P r = true
  | 0, s, r, h => by
    unfold dfs at h
    split at h
    · rename_i hp
      have : s = r := by simpa using h
      subst this
      exact ⟨⟨[], by simp, rfl, .nil, by simp⟩, hp⟩
    · cases h
  | n + 1, s, r, h => by
    unfold dfs at h
    obtain ⟨j, h1, h2, h3, _⟩ := dfsK_some h
    obtain ⟨h4, h5⟩ := dfs_ok h3
    exact ⟨ext_up h4 h1 (by omega), h5⟩
theorem dfs_no {P : List Int → Bool} {N : Nat} : ∀ {n : Nat} {s : List Int}, dfs P N n s = none → ∀ S, ExtS N n s S → P S = false
  | 0, s, h, S, hS => by
    unfold dfs at h
    obtain ⟨t, e1, e2, _⟩ := hS
    have : t = [] := List.eq_nil_of_length_eq_zero e2
    subst this
    rw [List.append_nil] at e1
    subst e1
    split at h
    · cases h
    · rename_i hp; simpa using hp
  | n + 1, s, h, S, hS => by
    unfold dfs at h
    obtain ⟨k, h1, h2, h3, _⟩ := ext_down hS
    exact dfs_no (dfsK_none h k h1 (by omega)) S h3

theorem cmpL_anti (x y : Int) : cmpL x y = -cmpL y x := by unfold cmpL; repeat' split; all_goals omega
theorem cmpL_zero {x y : Int} (h : cmpL x y = 0) : x = y := by unfold cmpL at h; repeat' split at h; all_goals omega
theorem cmpS_anti : ∀ a b : List Int, cmpS a b = -cmpS b a
  | [], [] => rfl
  | [], _ :: _ => rfl
  | _ :: _, [] => rfl
  | x :: a, y :: b => by
    have h := cmpL_anti x y
    unfold cmpS
    by_cases e : cmpL x y = 0
    · rw [if_pos e, if_pos (by omega), cmpS_anti a b]
    · rw [if_neg e, if_neg (by omega), h]
theorem cmpS_zero : ∀ a b : List Int, cmpS a b = 0 → a = b
  | [], [], _ => rfl
  | [], _ :: _, h => by simp [cmpS] at h
  | _ :: _, [], h => by simp [cmpS] at h
  | x :: a, y :: b, h => by
    unfold cmpS at h
    split at h
    · rename_i e
      rw [cmpL_zero e, cmpS_zero a b h]
    · contradiction
theorem cmpS_self (a : List Int) : cmpS a a = 0 := by have := cmpS_anti a a; omega
theorem cmpS_trans : ∀ a b c : List Int, cmpS a b ≤ 0 → cmpS b c ≤ 0 → cmpS a c ≤ 0
  | [], _, [], _, _ => by simp [cmpS]
  | [], _, _ :: _, _, _ => by simp [cmpS]
  | _ :: _, [], _, h, _ => by simp [cmpS] at h
  | _ :: _, _ :: _, [], _, h => by simp [cmpS] at h
  | x :: a, y :: b, z :: c, h1, h2 => by
    have ih := cmpS_trans a b c
    rw [cmpS] at h1 h2 ⊢
    have lt : ∀ u v : Int, cmpL u v = 0 ↔ u = v := fun u v => ⟨cmpL_zero, fun e => by subst e; unfold cmpL; simp⟩
    have le : ∀ u v : Int, ¬ u = v → (cmpL u v ≤ 0 ↔ u < v) := fun u v hne => by unfold cmpL; repeat' split; all_goals omega
    by_cases e1 : x = y
    · subst e1
      by_cases e2 : x = z
      · subst e2
        rw [if_pos ((lt x x).2 rfl)] at h1 h2 ⊢
        exact ih h1 h2
      · rw [if_neg (fun h => e2 ((lt _ _).1 h))] at h2 ⊢
        exact h2
    · rw [if_neg (fun h => e1 ((lt _ _).1 h))] at h1
      have g1 := (le x y e1).1 h1
      by_cases e2 : y = z
      · subst e2
        rw [if_neg (fun h => e1 ((lt _ _).1 h))]
        exact h1
      · rw [if_neg (fun h => e2 ((lt _ _).1 h))] at h2
        have g2 := (le y z e2).1 h2
        have e3 : ¬ x = z := by omega
        rw [if_neg (fun h => e3 ((lt _ _).1 h))]
        exact (le x z e3).2 (by omega)
theorem cmpS_app : ∀ s a b : List Int, cmpS (s ++ a) (s ++ b) = cmpS a b
  | [], a, b => rfl
  | x :: s, a, b => by
    rw [List.cons_append, List.cons_append, cmpS, if_pos (by unfold cmpL; simp), cmpS_app s a b]
theorem dfs_min {P : List Int → Bool} {N : Nat} : ∀ {n : Nat} {s r : List Int}, dfs P N n s = some r → ∀ S, ExtS N n s S → P S = true → ¬ cmpS S r < 0
  | 0, s, r, h, S, hS, _ => by
    obtain ⟨⟨t1, a1, a2, _⟩, _⟩ := dfs_ok h
    obtain ⟨t2, b1, b2, _⟩ := hS
    have : S = r := by rw [a1, b1, List.eq_nil_of_length_eq_zero a2, List.eq_nil_of_length_eq_zero b2]
    subst this
    rw [cmpS_self]; omega
  | n + 1, s, r, h, S, hS, hP => by
    unfold dfs at h
    obtain ⟨j, h1, h2, h3, h4⟩ := dfsK_some h
    obtain ⟨k, g1, g2, g3, t, g4⟩ := ext_down hS
    rcases Nat.lt_trichotomy k j with g | g | g
    · have := dfs_no (h4 k g1 g) S g3
      rw [hP] at this; cases this
    · subst g
      exact dfs_min h3 S g3 hP
    · obtain ⟨⟨t', e, _⟩, _⟩ := dfs_ok h3
      rw [e, g4, List.append_assoc, cmpS_app, List.cons_append, cmpS]
      have : cmpL (k : Int) (j : Int) = 1 := by unfold cmpL; rw [if_neg (by omega), if_pos (by omega)]
      rw [this]; simp

theorem gF_min {b l d : Int} {hs : List Int} {q : Nat} {a : List Cp} : ∀ (xs : List Cp) (K : Nat → Bool) (n k : Nat) (S : List Int), a.drop k = xs → S.Pairwise (· < ·) → (∀ i ∈ S, (k : Int) ≤ i ∧ i < a.length) → S.length = n → nwF b l d hs q K (somL a S) = n → cmpS (gF b l d hs q K n xs k) S ≤ 0
  | [], K, n, k, S, hd, hp, hi, hl, hn => by
    have hk : a.length ≤ k := List.drop_eq_nil_iff.1 hd
    cases S with
    | nil => simp [gF, cmpS]
    | cons s S => have := hi s (by simp); omega
  | x :: xs, K, n, k, S, hd, hp, hi, hl, hn => by
    obtain ⟨d1, d2, d3⟩ := drop_cons (d := D0) hd
    cases S with
    | nil =>
      have : n = 0 := by simpa using hl.symm
      subst this
      have h0 := gF_len (b := b) (l := l) (d := d) (hs := hs) (q := q) (x :: xs) K 0 k
      rw [List.eq_nil_of_length_eq_zero (by omega : (gF b l d hs q K 0 (x :: xs) k).length = 0)]
      simp [cmpS]
    | cons s S =>
      obtain ⟨n, rfl⟩ : ∃ m, n = m + 1 := ⟨S.length, by simpa using hl.symm⟩
      obtain ⟨p1, p2⟩ := List.pairwise_cons.1 hp
      have hs1 := hi s (by simp)
      have hl' : S.length = n := by simpa using hl
      have hrest : ∀ i ∈ S, ((k + 1 : Nat) : Int) ≤ i ∧ i < a.length := fun i h => by
        have := p1 i h; have := hi i (by simp [h]); omega
      unfold gF
      rw [somL, List.map_cons, nwF] at hn
      by_cases e : s = (k : Int)
      · subst e
        rw [show a.getD ((k : Int)).toNat D0 = x from d2] at hn
        by_cases hb : newB b l d hs q K x = true
        · rw [if_pos hb] at hn
          rw [if_pos ⟨by omega, hb⟩, cmpS, if_pos (by unfold cmpL; simp)]
          exact gF_min xs _ _ (k + 1) S d3 p2 hrest (by omega) (by show nwF b l d hs q _ (S.map _) = _; omega)
        · rw [if_neg hb] at hn
          have := nwF_le (b := b) (l := l) (d := d) (hs := hs) (q := q) (S.map fun i => a.getD i.toNat D0) K
          rw [List.length_map] at this
          omega
      · by_cases hb : newB b l d hs q K x = true
        · rw [if_pos ⟨by omega, hb⟩, cmpS]
          have : cmpL (k : Int) s = -1 := by unfold cmpL; rw [if_pos (by omega)]
          rw [this]; simp
        · rw [if_neg (fun g => hb g.2)]
          refine gF_min xs K (n + 1) (k + 1) (s :: S) d3 hp (fun i h => ?_) hl (by show nwF b l d hs q K (List.map _ (s :: S)) = _; rw [List.map_cons, nwF]; exact hn)
          rcases List.mem_cons.1 h with rfl | h
          · omega
          · exact hrest i h
theorem bst_min {b l d m : Int} {hs : List Int} {bad : Int} {a : List Cp} : ∀ (T : List Int) (best : List Int), (∀ q ∈ T, grdL b l d m hs bad a q ≠ []) →
    (best ≠ [] → cmpS (bst b l d m hs bad a T best) best ≤ 0) ∧ ∀ q ∈ T, cmpS (bst b l d m hs bad a T best) (grdL b l d m hs bad a q) ≤ 0
  | [], best, _ => ⟨fun _ => by show cmpS best best ≤ 0; rw [cmpS_self]; omega, by simp⟩
  | q :: T, best, h => by
    have hq := h q (by simp)
    unfold bst
    by_cases hc : best = [] ∨ cmpS (grdL b l d m hs bad a q) best < 0
    · rw [if_pos hc]
      obtain ⟨h1, h2⟩ := bst_min T (grdL b l d m hs bad a q) fun q' hq' => h q' (by simp [hq'])
      have h1 := h1 hq
      refine ⟨fun hne => ?_, fun q' hq' => ?_⟩
      · rcases hc with hc | hc
        · exact absurd hc hne
        · exact cmpS_trans _ _ _ h1 (by omega)
      · rcases List.mem_cons.1 hq' with rfl | hq'
        · exact h1
        · exact h2 q' hq'
    · rw [if_neg hc]
      have hne : best ≠ [] := fun e => hc (.inl e)
      obtain ⟨h1, h2⟩ := bst_min T best fun q' hq' => h q' (by simp [hq'])
      refine ⟨h1, fun q' hq' => ?_⟩
      rcases List.mem_cons.1 hq' with rfl | hq'
      · have : ¬ cmpS (grdL b l d m hs bad a q') best < 0 := fun h => hc (.inr h)
        have h3 := cmpS_anti best (grdL b l d m hs bad a q')
        exact cmpS_trans _ _ _ (h1 hne) (by omega)
      · exact h2 q' hq'

def telB (b l d m : Int) (hs : List Int) (bad : Int) (a : List Cp) (s : List Int) : Bool := decide (telL b l d m hs bad (somL a s) ≠ [])
theorem lst_dfs {b l d m : Int} {hs : List Int} {bad : Int} {a : List Cp} (h : lstE b l d m hs bad a = 0) :
    (∀ n : Nat, (n : Int) < lstN b l d m hs bad → dfs (telB b l d m hs bad a) a.length n [] = none) ∧ dfs (telB b l d m hs bad a) a.length (lstN b l d m hs bad).toNat [] = some (lstL b l d m hs bad a) := by
  obtain ⟨hr, q0, hq0, e0⟩ := lst_is h
  obtain ⟨_, _, hlen, htel⟩ := lst_ok h
  have hN : 0 ≤ lstN b l d m hs bad := by unfold lstN; omega
  obtain ⟨hc, hb0, hb1, hl5, hcap⟩ := red0 hr
  have hcap' : ∀ x ∈ a, 0 ≤ x.1 ∧ x.1 ≤ 11 := fun x hx => by have := capB_ok (hcap x hx); omega
  have hlo : lo [] = 0 := rfl
  refine ⟨fun n hn => ?_, ?_⟩
  · cases hd : dfs (telB b l d m hs bad a) a.length n [] with
    | none => rfl
    | some r =>
      exfalso
      obtain ⟨⟨t, e1, e2, _⟩, hp⟩ := dfs_ok hd
      have h1 := tel_need (of_decide_eq_true hp)
      rw [e1, List.nil_append] at h1
      unfold somL at h1
      rw [List.length_map] at h1
      omega
  · obtain ⟨o1, o2, o3, o4⟩ := grdL_ok hq0
    have hL : ExtS a.length (lstN b l d m hs bad).toNat [] (lstL b l d m hs bad a) := by
      refine ⟨lstL b l d m hs bad a, rfl, by omega, by rw [e0]; exact o1, fun i hi => ?_⟩
      rw [hlo]
      rw [e0] at hi
      have := o2 i hi
      omega
    have hLP : telB b l d m hs bad a (lstL b l d m hs bad a) = true := decide_eq_true htel
    cases hd : dfs (telB b l d m hs bad a) a.length (lstN b l d m hs bad).toNat [] with
    | none => have := dfs_no hd _ hL; rw [hLP] at this; cases this
    | some r =>
      obtain ⟨⟨t, e1, e2, e3, e4⟩, hp⟩ := dfs_ok hd
      rw [List.nil_append] at e1
      subst e1
      congr 1
      by_cases hz : lstN b l d m hs bad = 0
      · rw [List.eq_nil_of_length_eq_zero (by omega : (lstL b l d m hs bad a).length = 0), List.eq_nil_of_length_eq_zero (by omega : r.length = 0)]
      · have hne := of_decide_eq_true hp
        obtain ⟨q, hq⟩ : ∃ q, q ∈ telL b l d m hs bad (somL a r) := by
          cases e : telL b l d m hs bad (somL a r) with
          | nil => exact absurd e hne
          | cons q T => exact ⟨q, by simp⟩
        have hsub : ∀ x ∈ somL a r, x ∈ a := fun x hx => by
          obtain ⟨i, hi, rfl⟩ := List.mem_map.1 hx
          have := e4 i hi
          rw [hlo] at this
          exact getD_mem D0 a i.toNat (by omega)
        have hqa := tel_more hr hsub q hq
        obtain ⟨r0, r1, r2, r3⟩ := tel_mem hq
        have r4 := of_decide_eq_true r3
        rw [seen_new _ fun x hx => hcap' x (hsub x hx)] at r4
        have r5 := nwF_le (b := b) (l := l) (d := d) (hs := hs) (q := q.toNat) (somL a r) (K0 b l d hs bad q.toNat)
        have r6 : (somL a r).length = r.length := by unfold somL; rw [List.length_map]
        have r7 : nwF b l d hs q.toNat (K0 b l d hs bad q.toNat) (somL a r) = (lstN b l d m hs bad).toNat := by unfold lstN at *; omega
        have m1 := gF_min (b := b) (l := l) (d := d) (hs := hs) (q := q.toNat) (a := a) a (K0 b l d hs bad q.toNat) (lstN b l d m hs bad).toNat 0 r rfl e3 (fun i hi => by have := e4 i hi; rw [hlo] at this; omega) e2 r7
        rw [← grdL_gF (m := m) r1 hcap] at m1
        have m2 := (bst_min (b := b) (l := l) (d := d) (m := m) (hs := hs) (bad := bad) (a := a) (telL b l d m hs bad a) [] fun q' hq' e => by
          have := grd_ne hq' e
          omega).2 q hqa
        have m3 : cmpS (lstL b l d m hs bad a) r ≤ 0 := by
          rw [show lstL b l d m hs bad a = bst b l d m hs bad a (telL b l d m hs bad a) [] from if_pos h]
          exact cmpS_trans _ _ _ m2 m1
        have m4 := dfs_min hd _ hL hLP
        have m5 : cmpS (lstL b l d m hs bad a) r = 0 := by omega
        exact (cmpS_zero _ _ m5).symm
end Go.Proofs.Ytgljcfnplkcfhaa.S29

namespace Go.Proofs.Ytgljcfnplkcfhaa.S29
open Go

/-! ### the choices of so many captures, in order, and the first of them that tells -/
def leaO (b l d m : Int) (hs : List Int) (bad : Int) (a : List Cp) (s : List Int) (mo : Int) : Option (List Int) := dfs (telB b l d m hs bad a) a.length mo.toNat s
def leaL (b l d m : Int) (hs : List Int) (bad : Int) (a : List Cp) (s : List Int) (mo : Int) : List Int := (leaO b l d m hs bad a s mo).getD []
def leaR (b l d m : Int) (hs : List Int) (bad : Int) (a : List Cp) (s : List Int) (mo : Int) : Bool := (leaO b l d m hs bad a s mo).isNone
def leaE (b l d m : Int) (hs : List Int) (bad : Int) (a : List Cp) (s : List Int) (mo : Int) : Int := if leaR b l d m hs bad a s mo = true then 8 else 0
section
variable {b l d m : Int} {hs : List Int} {bad : Int} {a : List Cp} {s r : List Int} {mo : Int} {k : Nat}
theorem lea_yes (h : leaO b l d m hs bad a s mo = some r) : leaL b l d m hs bad a s mo = r ∧ leaR b l d m hs bad a s mo = false ∧ leaE b l d m hs bad a s mo = 0 := by
  have e : leaR b l d m hs bad a s mo = false := by rw [leaR, h]; rfl
  exact ⟨by rw [leaL, h]; rfl, e, by rw [leaE, e]; rfl⟩
theorem lea_no (h : leaO b l d m hs bad a s mo = none) : leaL b l d m hs bad a s mo = [] ∧ leaR b l d m hs bad a s mo = true ∧ leaE b l d m hs bad a s mo = 8 := by
  have e : leaR b l d m hs bad a s mo = true := by rw [leaR, h]; rfl
  exact ⟨by rw [leaL, h]; rfl, e, by rw [leaE, e]; rfl⟩
theorem lea_of (h : leaE b l d m hs bad a s mo = 0) : leaO b l d m hs bad a s mo = some (leaL b l d m hs bad a s mo) := by
  cases e : leaO b l d m hs bad a s mo with
  | some r => rw [(lea_yes e).1]
  | none => rw [(lea_no e).2.2] at h; cases h
theorem lea_of' (h : ¬ leaE b l d m hs bad a s mo = 0) : leaO b l d m hs bad a s mo = none := by
  cases e : leaO b l d m hs bad a s mo with
  | some r => exact absurd (lea_yes e).2.2 h
  | none => rfl
theorem lea_z1 (h0 : mo = 0) (h : 0 < ((telL b l d m hs bad (somL a s)).length : Int)) : leaO b l d m hs bad a s mo = some s := by
  have e : telB b l d m hs bad a s = true := decide_eq_true fun e => by rw [e] at h; simp at h
  rw [leaO, h0, show (0 : Int).toNat = 0 from rfl, dfs, if_pos e]
theorem lea_z0 (h0 : mo = 0) (h : ¬ 0 < ((telL b l d m hs bad (somL a s)).length : Int)) : leaO b l d m hs bad a s mo = none := by
  have e : ¬ telB b l d m hs bad a s = true := fun e => of_decide_eq_true e (List.eq_nil_of_length_eq_zero (by omega))
  rw [leaO, h0, show (0 : Int).toNat = 0 from rfl, dfs, if_neg e]
theorem dfsK_at {f : Nat → Option (List Int)} : ∀ {c k j : Nat}, k ≤ j → j < k + c → (∀ i, k ≤ i → i < j → f i = none) → f j = some r → dfsK f k c = some r
  | 0, k, j, h1, h2, _, _ => by omega
  | c + 1, k, j, h1, h2, h3, h4 => by
    unfold dfsK
    by_cases hj : k = j
    · subst hj; rw [h4]
    · rw [h3 k (Nat.le_refl _) (by omega)]
      exact dfsK_at (by omega) (by omega) (fun i g1 g2 => h3 i (by omega) g2) h4
theorem dfsK_not {f : Nat → Option (List Int)} : ∀ {c k : Nat}, (∀ i, k ≤ i → i < k + c → f i = none) → dfsK f k c = none
  | 0, k, _ => rfl
  | c + 1, k, h => by
    unfold dfsK
    rw [h k (Nat.le_refl _) (by omega)]
    exact dfsK_not fun i g1 g2 => h i (by omega) (by omega)
theorem lea_step (h : 1 ≤ mo) : leaO b l d m hs bad a s mo = dfsK (fun k => leaO b l d m hs bad a (s ++ [(k : Int)]) (mo - 1)) (lo s) (a.length - lo s) := by
  obtain ⟨n, hn⟩ : ∃ n : Nat, mo = (n : Int) + 1 := ⟨(mo - 1).toNat, by omega⟩
  subst hn
  rw [leaO, show ((n : Int) + 1).toNat = n + 1 by omega, dfs]
  congr 1
  funext k
  rw [leaO, show ((n : Int) + 1 - 1).toNat = n by omega]
theorem lea_at (h : 1 ≤ mo) (h1 : lo s ≤ k) (h2 : k < a.length) (hn : ∀ j, lo s ≤ j → j < k → leaO b l d m hs bad a (s ++ [(j : Int)]) (mo - 1) = none) (hk : leaO b l d m hs bad a (s ++ [(k : Int)]) (mo - 1) = some r) : leaO b l d m hs bad a s mo = some r := by
  rw [lea_step h]
  exact dfsK_at h1 (by omega) hn hk
theorem lea_end (h : 1 ≤ mo) (h1 : a.length ≤ k) (hn : ∀ j, lo s ≤ j → j < k → leaO b l d m hs bad a (s ++ [(j : Int)]) (mo - 1) = none) : leaO b l d m hs bad a s mo = none := by
  rw [lea_step h]
  exact dfsK_not fun i g1 g2 => hn i g1 (by omega)
theorem lea_pass (h : 1 ≤ mo) (h1 : lo s ≤ k) (h2 : k < a.length) (hn : ∀ j, lo s ≤ j → j < k → leaO b l d m hs bad a (s ++ [(j : Int)]) (mo - 1) = none) (hk : leaE b l d m hs bad a (s ++ [(k : Int)]) (mo - 1) = 0) :
    leaL b l d m hs bad a s mo = leaL b l d m hs bad a (s ++ [(k : Int)]) (mo - 1) ∧ leaR b l d m hs bad a s mo = leaR b l d m hs bad a (s ++ [(k : Int)]) (mo - 1) ∧ leaE b l d m hs bad a s mo = leaE b l d m hs bad a (s ++ [(k : Int)]) (mo - 1) := by
  have e := lea_of hk
  obtain ⟨a1, a2, a3⟩ := lea_yes (lea_at h h1 h2 hn e)
  exact ⟨a1, by rw [a2, (lea_yes e).2.1], by rw [a3, hk]⟩
theorem som_len0 (a : List Cp) (s : List Int) : (somL a s).length = s.length := by unfold somL; simp
theorem lea_next (hn : ∀ j, lo s ≤ j → j < k → leaO b l d m hs bad a (s ++ [(j : Int)]) (mo - 1) = none) (hk : leaO b l d m hs bad a (s ++ [(k : Int)]) (mo - 1) = none) : ∀ j, lo s ≤ j → j < k + 1 → leaO b l d m hs bad a (s ++ [(j : Int)]) (mo - 1) = none := fun j g1 g2 => by
  by_cases e : j = k
  · subst e; exact hk
  · exact hn j g1 (by omega)
theorem lo_last (hs : ∀ i ∈ s, 0 ≤ i ∧ i < (a.length : Int)) (h : 0 < (s.length : Int)) : ((lo s : Nat) : Int) = s.getD ((s.length : Int) - 1).toNat 0 + 1 ∧ lo s ≤ a.length := by
  have h1 := hs _ (getD_mem 0 s (s.length - 1) (by omega))
  rw [show ((s.length : Int) - 1).toNat = s.length - 1 by omega]
  unfold lo
  rw [if_neg (by omega)]
  omega
theorem lo_first (h : ¬ 0 < (s.length : Int)) : ((lo s : Nat) : Int) = 0 := by
  unfold lo
  rw [if_pos (by omega)]; rfl
theorem all_snoc (hs : ∀ i ∈ s, 0 ≤ i ∧ i < (a.length : Int)) (hk : k < a.length) : ∀ i ∈ s ++ [(k : Int)], 0 ≤ i ∧ i < (a.length : Int) := fun i hi => by
  rcases List.mem_append.1 hi with h | h
  · exact hs i h
  · rw [List.mem_singleton.1 h]; omega
theorem lea_one (hL : lstE b l d m hs bad a = 0) (hn : ∀ j : Nat, j < k → leaO b l d m hs bad a [] (j : Int) = none) (hk : leaE b l d m hs bad a [] (k : Int) = 0) : leaL b l d m hs bad a [] (k : Int) = lstL b l d m hs bad a ∧ leaR b l d m hs bad a [] (k : Int) = false := by
  obtain ⟨h1, h2⟩ := lst_dfs hL
  have hN : 0 ≤ lstN b l d m hs bad := by unfold lstN; omega
  have hk' := lea_of hk
  have e : k = (lstN b l d m hs bad).toNat := by
    rcases Nat.lt_trichotomy k (lstN b l d m hs bad).toNat with g | g | g
    · have := h1 k (by omega)
      rw [leaO, show ((k : Int)).toNat = k by omega, this] at hk'
      cases hk'
    · exact g
    · have := hn _ g
      rw [leaO, Int.toNat_natCast, h2] at this
      cases this
  have e2 : leaO b l d m hs bad a [] (k : Int) = some (lstL b l d m hs bad a) := by rw [leaO, Int.toNat_natCast, e, h2]
  exact ⟨(lea_yes e2).1, (lea_yes e2).2.1⟩
theorem lea_must (hL : lstE b l d m hs bad a = 0) (hk : a.length < k) (hn : ∀ j : Nat, j < k → leaO b l d m hs bad a [] (j : Int) = none) : False := by
  obtain ⟨_, h2⟩ := lst_dfs hL
  have hN : 0 ≤ lstN b l d m hs bad := by unfold lstN; omega
  obtain ⟨_, q, hq, _⟩ := lst_is hL
  have := tel_need (b := b) (l := l) (d := d) (m := m) (hs := hs) (bad := bad) (xs := a) fun e => by rw [e] at hq; simp at hq
  have := hn (lstN b l d m hs bad).toNat (by omega)
  rw [leaO, Int.toNat_natCast, h2] at this
  cases this
theorem telL_500 : (telL b l d m hs bad a).length ≤ 500 := by
  by_cases h : redL b l d m hs bad a = 0
  · have h1 := telL_len b l d m hs bad a
    have h2 := (red0 h).1.c2
    omega
  · rw [telL, if_neg h]; simp
theorem lstL_500 : (lstL b l d m hs bad a).length ≤ 500 := by
  by_cases h : lstE b l d m hs bad a = 0
  · obtain ⟨h1, q, hq, _⟩ := lst_is h
    obtain ⟨_, _, h3, _⟩ := lst_ok h
    have h4 := tel_need (b := b) (l := l) (d := d) (m := m) (hs := hs) (bad := bad) (xs := a) fun e => by rw [e] at hq; simp at hq
    obtain ⟨_, _, _, h5, _⟩ := red0 h1
    omega
  · rw [lst_nil h]; simp
def lsrR (b l d m : Int) (hs : List Int) (bad : Int) (a : List Cp) : Bool := !decide (lstE b l d m hs bad a = 0)
theorem lsr_yes (h : lstE b l d m hs bad a = 0) : lsrR b l d m hs bad a = false := by rw [lsrR, decide_eq_true h]; rfl
theorem lsr_no (h : ¬ lstE b l d m hs bad a = 0) : lsrR b l d m hs bad a = true ∧ lstL b l d m hs bad a = [] := ⟨by rw [lsrR, decide_eq_false h]; rfl, lst_nil h⟩
theorem lsr_next (hn : ∀ j : Nat, j < k → leaO b l d m hs bad a [] (j : Int) = none) (hk : leaO b l d m hs bad a [] (k : Int) = none) : ∀ j : Nat, j < k + 1 → leaO b l d m hs bad a [] (j : Int) = none := fun j g => by
  by_cases e : j = k
  · subst e; exact hk
  · exact hn j (by omega)
end
end Go.Proofs.Ytgljcfnplkcfhaa.S29

namespace Go.Proofs.Ytgljcfnplkcfhaa.S29
open Go Go.Proofs.Ytgljcfnplkcfhaa.Vc Go.Proofs
set_option maxRecDepth 100000
set_option linter.unusedVariables false

def sRSom : List V → Option (Prop × V × List Blk)
  | [.sl false (.cons (.int .i64) (.cons (.int .i64) .nil)) a, .sl false (.int .i64) s] => some (a.length ≤ 500 ∧ s.length ≤ 500 ∧ (∀ i ∈ s, 0 ≤ i ∧ i < (a.length : Int)), .own (.cons (.int .i64) (.cons (.int .i64) .nil)) 0, [.row true (.cons (.int .i64) (.cons (.int .i64) .nil)) (somL a s)])
  | _ => none
set_option maxHeartbeats 1000000 in
theorem bRSom (a : List (Int × (Int × Unit))) (s : List Int) (hp0 : a.length ≤ 500) (hp1 : s.length ≤ 500) (hp2 : (∀ i ∈ s, 0 ≤ i ∧ i < (a.length : Int))) : bodyP (En CRTel tys [] QAt) Try.f125 [.o (.cons (.int .i64) (.cons (.int .i64) .nil))] [.sl false (.cons (.int .i64) (.cons (.int .i64) .nil)) a, .sl false (.int .i64) s] (.own (.cons (.int .i64) (.cons (.int .i64) .nil)) 0) [.row true (.cons (.int .i64) (.cons (.int .i64) .nil)) (somL a s)] := by
  refine ⟨0, [(0, .k), (1, .k), (5, .o (.cons (.int .i64) (.cons (.int .i64) .nil))), (6, .k)], fun n vs H => ∃ (k : Nat), k ≤ s.length ∧ n = s.length - k ∧ vs = [.sl false (.cons (.int .i64) (.cons (.int .i64) .nil)) a, .sl false (.int .i64) s, .own (.cons (.int .i64) (.cons (.int .i64) .nil)) 0, .int .i64 (k : Int)] ∧ H = [.row true (.cons (.int .i64) (.cons (.int .i64) .nil)) (somL a (s.take k))], ⟨rfl, s.length, 0, by omega, by omega, rfl, rfl⟩, ?_⟩
  rintro n vs H ⟨k, hc1_0, rfl, rfl, rfl⟩
  refine ⟨fun h0 => ?_, fun h0 => ?_⟩
  · replace h0 : (k : Int) < (s.length : Int) := h0
    have hsv := hp2 _ (getD_mem 0 s k (by omega))
    have hsl := som_len a s k
    refine ⟨⟨by show (0 : Int) ≤ (k : Int); omega, by show (k : Int) < (s.length : Int); omega⟩, ⟨by show (0 : Int) ≤ s.getD k 0; omega, by show s.getD k 0 < (a.length : Int); omega⟩, rfl, rfl, ⟨rfl, rfl⟩, by show (somL a (s.take k)).length + ([((a.getD ((s.getD k 0).toNat) (0, (0, ()))).1, ((a.getD ((s.getD k 0).toNat) (0, (0, ()))).2).1, ())] : List (Int × (Int × Unit))).length ≤ 1000000000; simp only [List.length_cons, List.length_nil]; omega, ⟨by show (-9223372036854775808 : Int) ≤ ((k : Int) + 1); omega, by show ((k : Int) + 1) ≤ (9223372036854775807 : Int); omega⟩, ?_⟩
    exact ⟨rfl, s.length - (k + 1), by omega, k + 1, by omega, rfl, rfl, by rw [somL_snoc (by omega)]; rfl⟩
  · replace h0 : ¬ ((k : Int) < (s.length : Int)) := h0
    rw [show somL a s = somL a (s.take k) by rw [List.take_of_length_le (by omega)]]
    exact ⟨rfl, rfl, rfl, rfl⟩
def CRSom : List (Nat × Con) := (125, pureC [.v (.sl (.cons (.int .i64) (.cons (.int .i64) .nil))), .v (.sl (.int .i64))] sRSom) :: CRTel
theorem kRSom : Known Try.prog (En CRSom tys [] QAt) := kRTel.add Try.func125 Try.call125 [.o (.cons (.int .i64) (.cons (.int .i64) .nil))] fun ds p v bs h hp => by
  unfold sRSom at h
  split at h <;> simp only [Option.some.injEq, Prod.mk.injEq, reduceCtorEq] at h
  obtain ⟨rfl, rfl, rfl⟩ := h
  exact bRSom _ _ hp.1 hp.2.1 hp.2.2
def sRLea : List V → Option (Prop × V × List Blk)
  | [.agg [.int .i64 b, .int .i64 l, .int .i64 d, .int .i64 m, .sl false (.int .i64) hs], .int .i64 bad, .sl false (.cons (.int .i64) (.cons (.int .i64) .nil)) a, .sl false (.int .i64) s, .int .i64 mo] => some (hs.length ≤ 2000000 ∧ a.length ≤ 500 ∧ (s.length : Int) + mo ≤ 500 ∧ 0 ≤ mo ∧ (∀ i ∈ s, 0 ≤ i ∧ i < (a.length : Int)), .agg [.sl (leaR b l d m hs bad a s mo) (.int .i64) (leaL b l d m hs bad a s mo), .int .i64 (leaE b l d m hs bad a s mo)], [])
  | _ => none
def mRLea : List V → Nat
  | [.agg [.int .i64 b, .int .i64 l, .int .i64 d, .int .i64 m, .sl false (.int .i64) hs], .int .i64 bad, .sl false (.cons (.int .i64) (.cons (.int .i64) .nil)) a, .sl false (.int .i64) s, .int .i64 mo] => mo.toNat
  | _ => 0
set_option maxHeartbeats 2000000 in
theorem bRLea (b : Int) (l : Int) (d : Int) (m : Int) (hs : List Int) (bad : Int) (a : List (Int × (Int × Unit))) (s : List Int) (mo : Int) (hp0 : hs.length ≤ 2000000) (hp1 : a.length ≤ 500) (hp2 : (s.length : Int) + mo ≤ 500) (hp3 : 0 ≤ mo) (hp4 : (∀ i ∈ s, 0 ≤ i ∧ i < (a.length : Int))) : bodyI (En ((90, immC [.v (.cons (.int .i64) (.cons (.int .i64) (.cons (.int .i64) (.cons (.int .i64) (.cons (.sl (.int .i64)) .nil))))), .v (.int .i64), .v (.sl (.cons (.int .i64) (.cons (.int .i64) .nil))), .v (.sl (.int .i64)), .v (.int .i64)] (recS mRLea (mo.toNat) sRLea)) :: CRSom) tys [] QAt [90]) Try.f90 [.d (.int .i64), .k] [.agg [.int .i64 b, .int .i64 l, .int .i64 d, .int .i64 m, .sl false (.int .i64) hs], .int .i64 bad, .sl false (.cons (.int .i64) (.cons (.int .i64) .nil)) a, .sl false (.int .i64) s, .int .i64 mo] (.agg [.sl (leaR b l d m hs bad a s mo) (.int .i64) (leaL b l d m hs bad a s mo), .int .i64 (leaE b l d m hs bad a s mo)]) [] := by
  refine ⟨fun h0 => ?_, fun h0 => ?_⟩
  · replace h0 : mo = 0 := h0
    have hz := som_len0 a s
    refine ⟨by kernel_rfl, ⟨by show a.length ≤ 500; first | omega | assumption, by show s.length ≤ 500; first | omega | assumption, by first | assumption | simp⟩, rfl, rfl, rfl, rfl, rfl, ⟨by show hs.length ≤ 2000000; first | omega | assumption, by show (somL a s).length ≤ 2000000; first | omega | assumption⟩, ⟨rfl, rfl, rfl, Nat.le_of_ble_eq_true rfl⟩, fun h1 => ?_, fun h1 => ?_⟩
    · replace h1 : 0 < (((telL b l d m hs bad (somL a s)).length : Nat) : Int) := h1
      refine ⟨⟨rfl, rfl, rfl, Nat.le_of_ble_eq_true rfl⟩, ?_⟩
      obtain ⟨e1, e2, e3⟩ := lea_yes (lea_z1 h0 h1)
      rw [e1, e2, e3]
      exact ⟨rfl, rfl, rfl, rfl⟩
    · replace h1 : ¬ (0 < (((telL b l d m hs bad (somL a s)).length : Nat) : Int)) := h1
      refine ⟨⟨rfl, rfl, rfl, Nat.le_of_ble_eq_true rfl⟩, ?_⟩
      obtain ⟨e1, e2, e3⟩ := lea_no (lea_z0 h0 h1)
      rw [e1, e2, e3]
      exact ⟨rfl, rfl, rfl, rfl⟩
  · replace h0 : ¬ (mo = 0) := h0
    refine ⟨fun h2 => ?_, fun h2 => ?_⟩
    · replace h2 : 0 < (s.length : Int) := h2
      obtain ⟨hlo, hlo2⟩ := lo_last hp4 h2
      refine ⟨⟨by show (-9223372036854775808 : Int) ≤ ((s.length : Int) - 1); omega, by show ((s.length : Int) - 1) ≤ (9223372036854775807 : Int); omega⟩, ⟨by show (0 : Int) ≤ ((s.length : Int) - 1); omega, by show ((s.length : Int) - 1) < (s.length : Int); omega⟩, ⟨by show (-9223372036854775808 : Int) ≤ ((s.getD (((s.length : Int) - 1).toNat) 0) + 1); omega, by show ((s.getD (((s.length : Int) - 1).toNat) 0) + 1) ≤ (9223372036854775807 : Int); omega⟩, 2, [(1, .k), (2, .k), (3, .k), (4, .k), (5, .k), (10, .k), (13, .k)], fun n vs H => ∃ (k : Nat), lo s ≤ k ∧ k ≤ a.length ∧ (∀ j, lo s ≤ j → j < k → leaO b l d m hs bad a (s ++ [(j : Int)]) (mo - 1) = none) ∧ n = a.length - k ∧ vs = [.int .i64 bad, .sl false (.cons (.int .i64) (.cons (.int .i64) .nil)) a, .sl false (.int .i64) s, .int .i64 mo, .ptr 0 1 0 0, .ptr 1 1 0 0, .int .i64 (k : Int)] ∧ H = [.cells [.int .i64 b, .int .i64 l, .int .i64 d, .int .i64 m, .sl false (.int .i64) hs], .cells [.nils, .int .i64 0]], ⟨rfl, a.length - lo s, lo s, by omega, by omega, fun j g1 g2 => absurd g2 (by omega), by omega, by rw [hlo]; rfl, rfl⟩, ?_⟩
      rintro n vs H ⟨k, hc1_0, hc1_1, hc1_2, rfl, rfl, rfl⟩
      refine ⟨fun h3 => ?_, fun h3 => ?_⟩
      · replace h3 : (k : Int) < (a.length : Int) := h3
        refine ⟨by kernel_rfl, ⟨rfl, rfl⟩, by show ([] : List Int).length + s.length ≤ 1000000000; simp only [List.length_cons, List.length_nil]; omega, rfl, ⟨rfl, rfl⟩, by simp only [List.length_cons, List.length_nil, List.length_append]; omega, ⟨by show (-9223372036854775808 : Int) ≤ (mo - 1); omega, by show (mo - 1) ≤ (9223372036854775807 : Int); omega⟩, rfl, rfl, rfl, rfl, rfl, rfl, ⟨⟨by show hs.length ≤ 2000000; first | omega | assumption, by show a.length ≤ 500; first | omega | assumption, by show (((([] : List Int) ++ s) ++ ([(k : Int)] : List Int)).length : Int) + (mo - 1) ≤ 500; first | omega | assumption | (simp only [List.length_cons, List.length_nil, List.length_append, List.length_take, List.length_drop, List.length_set, List.length_replicate]; omega), by show 0 ≤ (mo - 1); first | omega | assumption, by exact all_snoc (k := k) hp4 (by first | exact Int.ofNat_lt.1 h3 | exact Int.ofNat_lt.1 h5)⟩, by show (mo - 1).toNat < mo.toNat; omega⟩, ⟨rfl, rfl, rfl, Nat.le_of_ble_eq_true rfl⟩, fun h4 => ?_, fun h4 => ?_⟩
        · replace h4 : (leaE b l d m hs bad a ((([] : List Int) ++ s) ++ ([(k : Int)] : List Int)) (mo - 1)) = 0 := h4
          refine ⟨⟨rfl, rfl, rfl, Nat.le_of_ble_eq_true rfl⟩, ?_⟩
          obtain ⟨e1, e2, e3⟩ := lea_pass (by omega) hc1_0 (by omega) hc1_2 h4
          rw [e1, e2, e3]
          exact ⟨rfl, rfl, rfl, rfl⟩
        · replace h4 : ¬ ((leaE b l d m hs bad a ((([] : List Int) ++ s) ++ ([(k : Int)] : List Int)) (mo - 1)) = 0) := h4
          have hno : leaO b l d m hs bad a (s ++ [(k : Int)]) (mo - 1) = none := lea_of' h4
          refine ⟨⟨by show (-9223372036854775808 : Int) ≤ ((k : Int) + 1); omega, by show ((k : Int) + 1) ≤ (9223372036854775807 : Int); omega⟩, ?_⟩
          exact ⟨rfl, a.length - (k + 1), by omega, k + 1, by omega, by omega, by first | exact lea_next hc1_2 hno | exact lea_next hc2_2 hno, rfl, rfl, rfl⟩
      · replace h3 : ¬ ((k : Int) < (a.length : Int)) := h3
        refine ⟨⟨rfl, rfl, rfl, Nat.le_of_ble_eq_true rfl⟩, ?_⟩
        obtain ⟨e1, e2, e3⟩ := lea_no (lea_end (k := k) (by omega) (by omega) hc1_2)
        rw [e1, e2, e3]
        exact ⟨rfl, rfl, rfl, rfl⟩
    · replace h2 : ¬ (0 < (s.length : Int)) := h2
      have hlo := lo_first h2
      refine ⟨2, [(1, .k), (2, .k), (3, .k), (4, .k), (5, .k), (10, .k), (13, .k)], fun n vs H => ∃ (k : Nat), lo s ≤ k ∧ k ≤ a.length ∧ (∀ j, lo s ≤ j → j < k → leaO b l d m hs bad a (s ++ [(j : Int)]) (mo - 1) = none) ∧ n = a.length - k ∧ vs = [.int .i64 bad, .sl false (.cons (.int .i64) (.cons (.int .i64) .nil)) a, .sl false (.int .i64) s, .int .i64 mo, .ptr 0 1 0 0, .ptr 1 1 0 0, .int .i64 (k : Int)] ∧ H = [.cells [.int .i64 b, .int .i64 l, .int .i64 d, .int .i64 m, .sl false (.int .i64) hs], .cells [.nils, .int .i64 0]], ⟨rfl, a.length - lo s, lo s, by omega, by omega, fun j g1 g2 => absurd g2 (by omega), by omega, by rw [hlo]; rfl, rfl⟩, ?_⟩
      rintro n vs H ⟨k, hc2_0, hc2_1, hc2_2, rfl, rfl, rfl⟩
      refine ⟨fun h5 => ?_, fun h5 => ?_⟩
      · replace h5 : (k : Int) < (a.length : Int) := h5
        refine ⟨by kernel_rfl, ⟨rfl, rfl⟩, by show ([] : List Int).length + s.length ≤ 1000000000; simp only [List.length_cons, List.length_nil]; omega, rfl, ⟨rfl, rfl⟩, by simp only [List.length_cons, List.length_nil, List.length_append]; omega, ⟨by show (-9223372036854775808 : Int) ≤ (mo - 1); omega, by show (mo - 1) ≤ (9223372036854775807 : Int); omega⟩, rfl, rfl, rfl, rfl, rfl, rfl, ⟨⟨by show hs.length ≤ 2000000; first | omega | assumption, by show a.length ≤ 500; first | omega | assumption, by show (((([] : List Int) ++ s) ++ ([(k : Int)] : List Int)).length : Int) + (mo - 1) ≤ 500; first | omega | assumption | (simp only [List.length_cons, List.length_nil, List.length_append, List.length_take, List.length_drop, List.length_set, List.length_replicate]; omega), by show 0 ≤ (mo - 1); first | omega | assumption, by exact all_snoc (k := k) hp4 (by first | exact Int.ofNat_lt.1 h3 | exact Int.ofNat_lt.1 h5)⟩, by show (mo - 1).toNat < mo.toNat; omega⟩, ⟨rfl, rfl, rfl, Nat.le_of_ble_eq_true rfl⟩, fun h6 => ?_, fun h6 => ?_⟩
        · replace h6 : (leaE b l d m hs bad a ((([] : List Int) ++ s) ++ ([(k : Int)] : List Int)) (mo - 1)) = 0 := h6
          refine ⟨⟨rfl, rfl, rfl, Nat.le_of_ble_eq_true rfl⟩, ?_⟩
          obtain ⟨e1, e2, e3⟩ := lea_pass (by omega) hc2_0 (by omega) hc2_2 h6
          rw [e1, e2, e3]
          exact ⟨rfl, rfl, rfl, rfl⟩
        · replace h6 : ¬ ((leaE b l d m hs bad a ((([] : List Int) ++ s) ++ ([(k : Int)] : List Int)) (mo - 1)) = 0) := h6
          have hno : leaO b l d m hs bad a (s ++ [(k : Int)]) (mo - 1) = none := lea_of' h6
          refine ⟨⟨by show (-9223372036854775808 : Int) ≤ ((k : Int) + 1); omega, by show ((k : Int) + 1) ≤ (9223372036854775807 : Int); omega⟩, ?_⟩
          exact ⟨rfl, a.length - (k + 1), by omega, k + 1, by omega, by omega, by first | exact lea_next hc1_2 hno | exact lea_next hc2_2 hno, rfl, rfl, rfl⟩
      · replace h5 : ¬ ((k : Int) < (a.length : Int)) := h5
        refine ⟨⟨rfl, rfl, rfl, Nat.le_of_ble_eq_true rfl⟩, ?_⟩
        obtain ⟨e1, e2, e3⟩ := lea_no (lea_end (k := k) (by omega) (by omega) hc2_2)
        rw [e1, e2, e3]
        exact ⟨rfl, rfl, rfl, rfl⟩
def CRLea : List (Nat × Con) := (90, immC [.v (.cons (.int .i64) (.cons (.int .i64) (.cons (.int .i64) (.cons (.int .i64) (.cons (.sl (.int .i64)) .nil))))), .v (.int .i64), .v (.sl (.cons (.int .i64) (.cons (.int .i64) .nil))), .v (.sl (.int .i64)), .v (.int .i64)] sRLea) :: CRSom
theorem kRLea : Known Try.prog (En CRLea tys [] QAt) := Known.frz0 <| (kRSom.frz [90]).addRecI Try.func90 Try.call90 [.d (.int .i64), .k] mRLea fun ds p v bs h hp => by
  unfold sRLea at h
  split at h <;> simp only [Option.some.injEq, Prod.mk.injEq, reduceCtorEq] at h
  obtain ⟨rfl, rfl, rfl⟩ := h
  exact bRLea _ _ _ _ _ _ _ _ _ hp.1 hp.2.1 hp.2.2.1 hp.2.2.2.1 hp.2.2.2.2
def sRLst : List V → Option (Prop × V × List Blk)
  | [.agg [.int .i64 b, .int .i64 l, .int .i64 d, .int .i64 m, .sl false (.int .i64) hs], .int .i64 bad, .sl false (.cons (.int .i64) (.cons (.int .i64) .nil)) a] => some (hs.length ≤ 2000000 ∧ a.length ≤ 2000000, .agg [.sl (lsrR b l d m hs bad a) (.int .i64) (lstL b l d m hs bad a), .int .i64 (lstE b l d m hs bad a)], [])
  | _ => none
set_option maxHeartbeats 2000000 in
theorem bRLst (b : Int) (l : Int) (d : Int) (m : Int) (hs : List Int) (bad : Int) (a : List (Int × (Int × Unit))) (hp0 : hs.length ≤ 2000000) (hp1 : a.length ≤ 2000000) : bodyI (En CRLea tys [] QAt) Try.f36 [.d (.int .i64), .k] [.agg [.int .i64 b, .int .i64 l, .int .i64 d, .int .i64 m, .sl false (.int .i64) hs], .int .i64 bad, .sl false (.cons (.int .i64) (.cons (.int .i64) .nil)) a] (.agg [.sl (lsrR b l d m hs bad a) (.int .i64) (lstL b l d m hs bad a), .int .i64 (lstE b l d m hs bad a)]) [] := by
  refine ⟨rfl, rfl, rfl, rfl, rfl, ⟨by show hs.length ≤ 2000000; first | omega | assumption, by show a.length ≤ 2000000; first | omega | assumption⟩, ⟨rfl, rfl, rfl, Nat.le_of_ble_eq_true rfl⟩, fun h0 => ?_, fun h0 => ?_⟩
  · replace h0 : (redL b l d m hs bad a) ≠ 0 := h0
    refine ⟨⟨rfl, rfl, rfl, Nat.le_of_ble_eq_true rfl⟩, ?_⟩
    have e2 : lstE b l d m hs bad a = redL b l d m hs bad a := if_neg h0
    obtain ⟨e3, e4⟩ := lsr_no (show ¬ lstE b l d m hs bad a = 0 by rw [e2]; exact h0)
    rw [e3, e4, e2]
    exact ⟨rfl, rfl, rfl, rfl⟩
  · replace h0 : ¬ ((redL b l d m hs bad a) ≠ 0) := h0
    have hr : redL b l d m hs bad a = 0 := Classical.not_not.1 h0
    obtain ⟨_, _, _, hal, _⟩ := red0 hr
    refine ⟨fun h1 => ?_, fun h1 => ?_⟩
    · replace h1 : (((telL b l d m hs bad a).length : Nat) : Int) = 0 := h1
      refine ⟨⟨rfl, rfl, rfl, Nat.le_of_ble_eq_true rfl⟩, ?_⟩
      have e0 : telL b l d m hs bad a = [] := List.eq_nil_of_length_eq_zero (by omega)
      have e2 : lstE b l d m hs bad a = 8 := by unfold lstE; rw [if_pos hr, if_pos e0]
      obtain ⟨e3, e4⟩ := lsr_no (show ¬ lstE b l d m hs bad a = 0 by rw [e2]; decide)
      rw [e3, e4, e2]
      exact ⟨rfl, rfl, rfl, rfl⟩
    · replace h1 : ¬ ((((telL b l d m hs bad a).length : Nat) : Int) = 0) := h1
      have hL : lstE b l d m hs bad a = 0 := by unfold lstE; rw [if_pos hr, if_neg (fun e => h1 (by rw [e]; rfl))]
      refine ⟨4, [(1, .k), (2, .k), (3, .k), (6, .k), (8, .k)], fun n vs H => ∃ (k : Nat), k ≤ a.length + 1 ∧ (∀ j : Nat, j < k → leaO b l d m hs bad a [] (j : Int) = none) ∧ n = a.length + 1 - k ∧ vs = [.int .i64 bad, .sl false (.cons (.int .i64) (.cons (.int .i64) .nil)) a, .ptr 0 1 0 0, .ptr 1 1 0 0, .int .i64 (k : Int)] ∧ H = [.cells [.int .i64 b, .int .i64 l, .int .i64 d, .int .i64 m, .sl false (.int .i64) hs], .cells [.nils, .int .i64 0], .row true (.int .i64) (telL b l d m hs bad a), .cells [.own (.int .i64) 2, .int .i64 (redL b l d m hs bad a)]], ⟨rfl, a.length + 1, 0, by omega, fun j g => absurd g (by omega), by omega, rfl, rfl⟩, ?_⟩
      rintro n vs H ⟨k, hc1_0, hc1_1, rfl, rfl, rfl⟩
      refine ⟨fun h2 => ?_, fun h2 => ?_⟩
      · replace h2 : (k : Int) ≤ (a.length : Int) := h2
        refine ⟨rfl, rfl, rfl, rfl, rfl, rfl, ⟨by show hs.length ≤ 2000000; first | omega | assumption, by show a.length ≤ 500; first | omega | assumption, by simp only [List.length_nil]; omega, by show 0 ≤ (k : Int); first | omega | assumption, by first | assumption | simp⟩, ⟨rfl, rfl, rfl, Nat.le_of_ble_eq_true rfl⟩, fun h3 => ?_, fun h3 => ?_⟩
        · replace h3 : (leaE b l d m hs bad a ([]) (k : Int)) = 0 := h3
          refine ⟨⟨rfl, rfl, rfl, Nat.le_of_ble_eq_true rfl⟩, ?_⟩
          obtain ⟨e1, e2⟩ := lea_one hL hc1_1 h3
          rw [lsr_yes hL, hL, e1, e2, h3]
          exact ⟨rfl, rfl, rfl, rfl⟩
        · replace h3 : ¬ ((leaE b l d m hs bad a ([]) (k : Int)) = 0) := h3
          have hno := lea_of' h3
          refine ⟨⟨by show (-9223372036854775808 : Int) ≤ ((k : Int) + 1); omega, by show ((k : Int) + 1) ≤ (9223372036854775807 : Int); omega⟩, ?_⟩
          exact ⟨rfl, a.length + 1 - (k + 1), by omega, k + 1, by omega, lsr_next hc1_1 hno, rfl, rfl, rfl⟩
      · replace h2 : ¬ ((k : Int) ≤ (a.length : Int)) := h2
        refine ⟨⟨rfl, rfl, rfl, Nat.le_of_ble_eq_true rfl⟩, ?_⟩
        exact (lea_must hL (by omega) hc1_1).elim
def CRLst : List (Nat × Con) := (36, immC [.v (.cons (.int .i64) (.cons (.int .i64) (.cons (.int .i64) (.cons (.int .i64) (.cons (.sl (.int .i64)) .nil))))), .v (.int .i64), .v (.sl (.cons (.int .i64) (.cons (.int .i64) .nil)))] sRLst) :: CRLea
theorem kRLst : Known Try.prog (En CRLst tys [] QAt) := kRLea.addI Try.func36 Try.call36 [.d (.int .i64), .k] fun ds p v bs h hp => by
  unfold sRLst at h
  split at h <;> simp only [Option.some.injEq, Prod.mk.injEq, reduceCtorEq] at h
  obtain ⟨rfl, rfl, rfl⟩ := h
  exact bRLst _ _ _ _ _ _ _ hp.1 hp.2
end Go.Proofs.Ytgljcfnplkcfhaa.S29

namespace Go.Proofs.Ytgljcfnplkcfhaa.S29
open Go Go.Proofs.Ytgljcfnplkcfhaa.Vc Go.Proofs
set_option maxRecDepth 100000
set_option linter.unusedVariables false

def sLTells : List V → Option (Prop × V × List Blk)
  | [.agg [.int .i64 b, .int .i64 l, .int .i64 d, .int .i64 m, .sl false (.int .i64) hs], .sl false (.cons (.int .i64) (.cons (.int .i64) .nil)) a, .dat false (.arr 2 (.int .i64)) nu] => some (hs.length ≤ 1048576 ∧ a.length ≤ 1048576 ∧ nu.length = 2, .b True, [])
  | _ => none
set_option maxHeartbeats 4000000 in
theorem bLTells (b : Int) (l : Int) (d : Int) (m : Int) (hs : List Int) (a : List (Int × (Int × Unit))) (nu : List Int) (hp0 : hs.length ≤ 1048576) (hp1 : a.length ≤ 1048576) (hp2 : nu.length = 2) : bodyP (En CRLst tys [] QAt) Try.f4 [.k] [.agg [.int .i64 b, .int .i64 l, .int .i64 d, .int .i64 m, .sl false (.int .i64) hs], .sl false (.cons (.int .i64) (.cons (.int .i64) .nil)) a, .dat false (.arr 2 (.int .i64)) nu] (.b True) [] := by
  have w1 : (telL b l d m hs (nu.getD 0 0) a).length ≤ 500 := telL_500
  have w2 : (lstL b l d m hs (nu.getD 0 0) a).length ≤ 500 := lstL_500
  refine ⟨⟨rfl, by first | assumption | simp⟩, rfl, rfl, rfl, rfl, rfl, by show hs.length ≤ 2000000; first | omega | assumption, fun h0 => ?_, fun h0 => ?_⟩
  · replace h0 : ¬ (¬ (fewP b l d m hs 30)) := h0
    refine ⟨fun h1 => ?_, fun h1 => ?_⟩
    · replace h1 : 12 < (a.length : Int) := h1
      refine ⟨fun h2 => ?_, fun h2 => ?_⟩
      · replace h2 : (a.length : Int) ≤ 500 := h2
        refine ⟨trivial, ?_⟩
        exact ⟨rfl, rfl, congrArg V.b (propext ⟨fun _ => trivial, fun _ => by first | trivial | rfl⟩), rfl⟩
      · replace h2 : ¬ ((a.length : Int) ≤ 500) := h2
        refine ⟨⟨by show (0 : Int) ≤ 1; omega, by show 1 < (2 : Int); omega, by first | assumption | simp⟩, rfl, rfl, rfl, rfl, rfl, ⟨by show hs.length ≤ 2000000; first | omega | assumption, by show a.length ≤ 2000000; first | omega | assumption⟩, ⟨by show (0 : Int) ≤ 1; omega, by show 1 < (2 : Int); omega, by first | assumption | simp⟩, rfl, rfl, rfl, rfl, rfl, ⟨by show hs.length ≤ 2000000; first | omega | assumption, by show a.length ≤ 2000000; first | omega | assumption⟩, ⟨rfl, rfl, rfl, Nat.le_of_ble_eq_true rfl⟩, ⟨by show (0 : Int) ≤ 0; omega, by show 0 < (2 : Int); omega, by first | assumption | simp⟩, rfl, rfl, rfl, rfl, rfl, ⟨by show hs.length ≤ 2000000; first | omega | assumption, by show a.length ≤ 2000000; first | omega | assumption⟩, ⟨by show (0 : Int) ≤ 0; omega, by show 0 < (2 : Int); omega, by first | assumption | simp⟩, rfl, rfl, rfl, rfl, rfl, ⟨by show hs.length ≤ 2000000; first | omega | assumption, by show a.length ≤ 2000000; first | omega | assumption⟩, ⟨rfl, rfl, rfl, Nat.le_of_ble_eq_true rfl⟩, ⟨by show (0 : Int) ≤ 0; omega, by show 0 < (2 : Int); omega, by first | assumption | simp⟩, rfl, rfl, rfl, rfl, rfl, ⟨by show hs.length ≤ 2000000; first | omega | assumption, by show a.length ≤ 2000000; first | omega | assumption⟩, ⟨by show (0 : Int) ≤ 0; omega, by show 0 < (2 : Int); omega, by first | assumption | simp⟩, rfl, rfl, rfl, rfl, rfl, ⟨by show hs.length ≤ 2000000; first | omega | assumption, by show a.length ≤ 2000000; first | omega | assumption⟩, ⟨rfl, rfl, rfl, Nat.le_of_ble_eq_true rfl⟩, trivial, fun h3 => ?_, fun h3 => absurd (show True by exact (by first | trivial | rfl)) h3⟩
        refine ⟨fun h4 => ?_, fun h4 => absurd (show (senL b l d m hs a (nu.getD 1 0)) = (senL b l d m hs a (nu.getD 1 0)) by exact (by first | trivial | rfl)) h4⟩
        refine ⟨fun h5 => ?_, fun h5 => absurd (show (senE b l d m hs a (nu.getD 1 0)) = (senE b l d m hs a (nu.getD 1 0)) by exact (by first | trivial | rfl)) h5⟩
        refine ⟨⟨by show (telL b l d m hs (nu.getD 0 0) a).length ≤ 2000000; first | omega | assumption, by show (telL b l d m hs (nu.getD 0 0) a).length ≤ 2000000; first | omega | assumption⟩, fun h6 => ?_, fun h6 => absurd (show (telL b l d m hs (nu.getD 0 0) a) = (telL b l d m hs (nu.getD 0 0) a) by exact (by first | trivial | rfl)) h6⟩
        refine ⟨fun h7 => ?_, fun h7 => absurd (show (redL b l d m hs (nu.getD 0 0) a) = (redL b l d m hs (nu.getD 0 0) a) by exact (by first | trivial | rfl)) h7⟩
        refine ⟨⟨by show (lstL b l d m hs (nu.getD 0 0) a).length ≤ 2000000; first | omega | assumption, by show (lstL b l d m hs (nu.getD 0 0) a).length ≤ 2000000; first | omega | assumption⟩, fun h8 => ?_, fun h8 => absurd (show (lstL b l d m hs (nu.getD 0 0) a) = (lstL b l d m hs (nu.getD 0 0) a) by exact (by first | trivial | rfl)) h8⟩
        exact ⟨rfl, rfl, congrArg V.b (propext ⟨fun _ => trivial, fun _ => by first | trivial | rfl⟩), rfl⟩
    · replace h1 : ¬ (12 < (a.length : Int)) := h1
      refine ⟨⟨by show (0 : Int) ≤ 1; omega, by show 1 < (2 : Int); omega, by first | assumption | simp⟩, rfl, rfl, rfl, rfl, rfl, ⟨by show hs.length ≤ 2000000; first | omega | assumption, by show a.length ≤ 2000000; first | omega | assumption⟩, ⟨by show (0 : Int) ≤ 1; omega, by show 1 < (2 : Int); omega, by first | assumption | simp⟩, rfl, rfl, rfl, rfl, rfl, ⟨by show hs.length ≤ 2000000; first | omega | assumption, by show a.length ≤ 2000000; first | omega | assumption⟩, ⟨rfl, rfl, rfl, Nat.le_of_ble_eq_true rfl⟩, ⟨by show (0 : Int) ≤ 0; omega, by show 0 < (2 : Int); omega, by first | assumption | simp⟩, rfl, rfl, rfl, rfl, rfl, ⟨by show hs.length ≤ 2000000; first | omega | assumption, by show a.length ≤ 2000000; first | omega | assumption⟩, ⟨by show (0 : Int) ≤ 0; omega, by show 0 < (2 : Int); omega, by first | assumption | simp⟩, rfl, rfl, rfl, rfl, rfl, ⟨by show hs.length ≤ 2000000; first | omega | assumption, by show a.length ≤ 2000000; first | omega | assumption⟩, ⟨rfl, rfl, rfl, Nat.le_of_ble_eq_true rfl⟩, ⟨by show (0 : Int) ≤ 0; omega, by show 0 < (2 : Int); omega, by first | assumption | simp⟩, rfl, rfl, rfl, rfl, rfl, ⟨by show hs.length ≤ 2000000; first | omega | assumption, by show a.length ≤ 2000000; first | omega | assumption⟩, ⟨by show (0 : Int) ≤ 0; omega, by show 0 < (2 : Int); omega, by first | assumption | simp⟩, rfl, rfl, rfl, rfl, rfl, ⟨by show hs.length ≤ 2000000; first | omega | assumption, by show a.length ≤ 2000000; first | omega | assumption⟩, ⟨rfl, rfl, rfl, Nat.le_of_ble_eq_true rfl⟩, trivial, fun h9 => ?_, fun h9 => absurd (show True by exact (by first | trivial | rfl)) h9⟩
      refine ⟨fun h10 => ?_, fun h10 => absurd (show (senL b l d m hs a (nu.getD 1 0)) = (senL b l d m hs a (nu.getD 1 0)) by exact (by first | trivial | rfl)) h10⟩
      refine ⟨fun h11 => ?_, fun h11 => absurd (show (senE b l d m hs a (nu.getD 1 0)) = (senE b l d m hs a (nu.getD 1 0)) by exact (by first | trivial | rfl)) h11⟩
      refine ⟨⟨by show (telL b l d m hs (nu.getD 0 0) a).length ≤ 2000000; first | omega | assumption, by show (telL b l d m hs (nu.getD 0 0) a).length ≤ 2000000; first | omega | assumption⟩, fun h12 => ?_, fun h12 => absurd (show (telL b l d m hs (nu.getD 0 0) a) = (telL b l d m hs (nu.getD 0 0) a) by exact (by first | trivial | rfl)) h12⟩
      refine ⟨fun h13 => ?_, fun h13 => absurd (show (redL b l d m hs (nu.getD 0 0) a) = (redL b l d m hs (nu.getD 0 0) a) by exact (by first | trivial | rfl)) h13⟩
      refine ⟨⟨by show (lstL b l d m hs (nu.getD 0 0) a).length ≤ 2000000; first | omega | assumption, by show (lstL b l d m hs (nu.getD 0 0) a).length ≤ 2000000; first | omega | assumption⟩, fun h14 => ?_, fun h14 => absurd (show (lstL b l d m hs (nu.getD 0 0) a) = (lstL b l d m hs (nu.getD 0 0) a) by exact (by first | trivial | rfl)) h14⟩
      exact ⟨rfl, rfl, congrArg V.b (propext ⟨fun _ => trivial, fun _ => by first | trivial | rfl⟩), rfl⟩
  · replace h0 : ¬ (fewP b l d m hs 30) := h0
    refine ⟨trivial, ?_⟩
    exact ⟨rfl, rfl, congrArg V.b (propext ⟨fun _ => trivial, fun _ => by first | trivial | rfl⟩), rfl⟩
end Go.Proofs.Ytgljcfnplkcfhaa.S29

namespace Go.Proofs.Ytgljcfnplkcfhaa.Cd
open Go Go.Proofs.Ytgljcfnplkcfhaa.Vc Go.Proofs Go.Proofs.Ytgljcfnplkcfhaa.S29 Go.ChangeShapes Go.WideShapes Go.ChangeAt Go.RowKit
set_option maxRecDepth 100000
set_option linter.unusedVariables false

theorem bulkAll {H : Type} : ∀ l : List (DataW H), Rows.uptoBulkAll l = (l.map Rows.uptoBulk).sum
  | [] => rfl
  | d :: l => by rw [Rows.uptoBulkAll, bulkAll l]; rfl
theorem bulk {H : Type} : Bulk (H := H) Rows.uptoBulk where
  one d := by cases d with
    | lit l => cases l <;> simp [Rows.uptoBulk]
    | _ => simp [Rows.uptoBulk]
  str b := by simp [Rows.uptoBulk]
  sl es sp := by rw [Rows.uptoBulk, bulkAll, bulkAll]; omega
  agg ps := by rw [Rows.uptoBulk, bulkAll]; omega
theorem wt_cons (t ts : Ty) (x : (Ty.cons t ts).D) : wt (.cons t ts) x = wt t x.1 + wt ts x.2 := rfl
theorem wt_int (k : IntKind) (x : Int) : wt (.int k) x = 1 := rfl
theorem wt_nil (x : Unit) : wt .nil x = 0 := rfl
theorem wt_sl (t : Ty) (h : ∀ x, 1 ≤ wt t x) (xs : List t.D) : xs.length ≤ wt (.sl t) xs := by
  have e : wt (.sl t) xs = (xs.map (wt t)).sum + 1 := rfl
  rw [e]
  clear e
  induction xs with
  | nil => simp
  | cons x xs ih => have := h x; simp only [List.map_cons, List.sum_cons, List.length_cons]; omega
theorem laidOut : laidOutB Try.prog = true := by kernel_rfl
theorem own : ownKnob Try.prog.godebug = none := by kernel_rfl

section
variable {H : Type} {enc : TypeId × Value → H} {P : Program}
theorem post_same {f : Func} {s : ChangeSpec} {apart fresh handsOn again : Bool} {W W' : World} {args : Array Value} {v : Value} {ds gs : List (DataW H)} {before pa pv : List MemPlace}
    (hW : DataW.Whole enc P f.params.toList s.vars apart W args.toList ds gs before)
    (hres : ∀ (b : Nat) (sp : Nat → Bool) (hd : Bool), DataW.TrodAll enc P W' b sp hd f.resultTypes.toList (v.resultList f.resultTypes.size) (s.fn H (ds ++ gs)).results [])
    (hargs : ∀ sp : Nat → Bool, (∀ p ∈ before, sp p.block = true) → DataW.TrodAll enc P W' 0 sp true f.params.toList args.toList (s.fn H (ds ++ gs)).args pa)
    (hvars : ∀ sp : Nat → Bool, (∀ p ∈ before, sp p.block = true) → DataW.TrodVars enc P W' sp s.vars (s.fn H (ds ++ gs)).vars pv)
    (hps : before = pa ++ pv) (hb : Below W.heap.size W W')
    (hok : ∀ (j : Nat) (t : TypeId) (r : Value), f.resultTypes[j]? = some t → (v.resultList f.resultTypes.size)[j]? = some r → Value.okWide P W' .any 0 t r) :
    s.post enc P f apart fresh handsOn again W args v W' := by
  have hlt : ∀ p ∈ before, p.block < W.heap.size := fun p hp => by simpa using hW.lt p hp
  have hold : ∀ p ∈ before, (fun b => decide (b < W.heap.size)) p.block = true := fun p hp => by simpa using hW.lt p hp
  refine ⟨ds, gs, before, [], pa, pv, hW, hres _ _ _, hargs _ hold, hvars _ hold, World.keptBut_mono (fun p hp => ⟨hp, ?_⟩) (hb.frame (· ∈ before)), fun _ => ?_⟩
  · rw [hps, List.mem_append] at hp
    exact Or.inr hp
  · obtain ⟨_, _, _, _, _, hz, hn⟩ := hW
    refine ⟨hok, _, _, ([] ++ pa) ++ pv, ⟨[] ++ pa, pv, trodAll_append (hargs _ (fun _ _ => rfl)) (hres _ _ _), hvars _ (fun _ _ => rfl), rfl, ?_, ?_⟩, ?_⟩
    · intro b off hp
      have hp' : MemPlace.cell b off ∈ before := by rw [hps]; simpa using hp
      rw [hb.frozen (hlt _ hp')]
      exact hz b off hp'
    · intro ha
      have := hn ha
      rw [hps] at this
      simpa using this
    · intro p hp _
      rw [hps]
      simpa using hp
end
end Go.Proofs.Ytgljcfnplkcfhaa.Cd

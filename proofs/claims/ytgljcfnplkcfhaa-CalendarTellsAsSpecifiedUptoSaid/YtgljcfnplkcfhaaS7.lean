/- Texts of this claim: S29.Ph, S29.Pi. -/
import Derived.Test.YtgljcfnplkcfhaaS6
set_option linter.unusedVariables false
set_option linter.unusedSimpArgs false
namespace Go.Proofs.Ytgljcfnplkcfhaa.S29
open Go

/-! ### captures that are limited in each window -/
def winP (t w : Int) (y : Cp) : Bool := decide (t ≤ y.2.1 ∧ y.2.1 < t + w)
def winC (a : List Cp) (t w : Int) : Nat := a.countP (winP t w)
def alwB (a : List Cp) (w mo : Int) : Bool := a.all fun x => decide ((winC a x.2.1 w : Int) ≤ mo)
theorem winC_le (a : List Cp) (t w : Int) : winC a t w ≤ a.length := List.countP_le_length
theorem countP_snoc {α : Type} (d : α) (p : α → Bool) (l : List α) {k : Nat} (hk : k < l.length) : (l.take (k + 1)).countP p = (l.take k).countP p + (if p (l.getD k d) = true then 1 else 0) := by
  rw [take_snoc d l k hk, List.countP_append, List.countP_singleton]

theorem min_tick : ∀ (a : List Cp) (p : Cp → Bool), (∃ x ∈ a, p x = true) → ∃ x ∈ a, p x = true ∧ ∀ y ∈ a, p y = true → x.2.1 ≤ y.2.1
  | [], p, h => by obtain ⟨x, hx, _⟩ := h; simp at hx
  | z :: a, p, h => by
    by_cases h2 : ∃ x ∈ a, p x = true
    · obtain ⟨x, hx, hp, hm⟩ := min_tick a p h2
      by_cases hz : p z = true
      · by_cases hc : z.2.1 ≤ x.2.1
        · refine ⟨z, by simp, hz, fun y hy hpy => ?_⟩
          rcases List.mem_cons.1 hy with rfl | hy
          · exact Int.le_refl _
          · have := hm y hy hpy; omega
        · refine ⟨x, by simp [hx], hp, fun y hy hpy => ?_⟩
          rcases List.mem_cons.1 hy with rfl | hy
          · omega
          · exact hm y hy hpy
      · refine ⟨x, by simp [hx], hp, fun y hy hpy => ?_⟩
        rcases List.mem_cons.1 hy with rfl | hy
        · exact absurd hpy hz
        · exact hm y hy hpy
    · obtain ⟨x, hx, hp⟩ := h
      rcases List.mem_cons.1 hx with rfl | hx
      · refine ⟨x, by simp, hp, fun y hy hpy => ?_⟩
        rcases List.mem_cons.1 hy with rfl | hy
        · exact Int.le_refl _
        · exact absurd ⟨y, hy, hpy⟩ h2
      · exact absurd ⟨x, hx, hp⟩ h2
theorem win_any {a : List Cp} {w mo : Int} (h : alwB a w mo = true) (h0 : 0 ≤ mo) (t : Int) : (winC a t w : Int) ≤ mo := by
  by_cases hx : ∃ x ∈ a, winP t w x = true
  · obtain ⟨x, hx, hp, hm⟩ := min_tick a _ hx
    have h1 := of_decide_eq_true (List.all_eq_true.1 h x hx)
    have h2 : winC a t w ≤ winC a x.2.1 w := List.countP_mono_left fun y hy hpy => by
      have e1 := of_decide_eq_true hpy
      have e2 := of_decide_eq_true hp
      exact decide_eq_true ⟨hm y hy hpy, by omega⟩
    omega
  · have : winC a t w = 0 := List.countP_eq_zero.2 fun y hy hpy => hx ⟨y, hy, hpy⟩
    omega
theorem winC_split (t w : Int) (k : Nat) : ∀ a : List Cp, winC a t (((k + 1 : Nat) : Int) * w) ≤ winC a t (k * w) + winC a (t + k * w) w
  | [] => Nat.zero_le _
  | y :: a => by
    have ih := winC_split t w k a
    unfold winC at *
    rw [List.countP_cons, List.countP_cons, List.countP_cons]
    have e := mul_next' w k
    have : winP t (((k + 1 : Nat) : Int) * w) y = true → winP t (k * w) y = true ∨ winP (t + k * w) w y = true := fun g => by
      have g := of_decide_eq_true g
      rw [e] at g
      by_cases hc : y.2.1 < t + k * w
      · exact .inl (decide_eq_true ⟨g.1, hc⟩)
      · exact .inr (decide_eq_true ⟨by omega, by omega⟩)
    by_cases g : winP t (((k + 1 : Nat) : Int) * w) y = true
    · rw [if_pos g]
      rcases this g with g | g <;> rw [if_pos g] <;> omega
    · rw [if_neg g]; omega
theorem win_many {a : List Cp} {w mo : Int} (h : alwB a w mo = true) (h0 : 0 ≤ mo) (t : Int) : ∀ k : Nat, (winC a t (k * w) : Int) ≤ mo * k
  | 0 => by
    have : winC a t (((0 : Nat) : Int) * w) = 0 := List.countP_eq_zero.2 fun y hy hpy => by
      have e := of_decide_eq_true hpy
      rw [show ((0 : Nat) : Int) = 0 from rfl, Int.zero_mul] at e
      omega
    rw [this]; simp
  | k + 1 => by
    have h1 := win_many h h0 t k
    have h2 := win_any h h0 (t + k * w)
    have h3 := winC_split t w k a
    rw [mul_next]
    omega

theorem cntF_or_le (f g : Nat → Bool) : ∀ k, cntF (fun i => f i || g i) k ≤ cntF f k + cntF g k
  | 0 => Nat.le_refl _
  | k + 1 => by
    have := cntF_or_le f g k
    rw [cntF, cntF, cntF]
    cases f k <;> cases g k <;> simp <;> omega
theorem cntF_eq_le (x : Int) (p : Bool) : ∀ k, cntF (fun i => decide (x = (i : Int)) && p) k ≤ (if p = true then 1 else 0) ∧ (x < 0 ∨ (k : Int) ≤ x → cntF (fun i => decide (x = (i : Int)) && p) k = 0)
  | 0 => by simp [cntF]
  | k + 1 => by
    obtain ⟨h1, h2⟩ := cntF_eq_le x p k
    rw [cntF]
    by_cases e : x = (k : Int)
    · rw [h2 (.inr (by omega))]
      constructor
      · cases p <;> simp [e]
      · intro h; omega
    · have : (decide (x = (k : Int)) && p) = false := by rw [decide_eq_false e, Bool.false_and]
      rw [if_neg (by rw [this]; simp), Nat.add_zero]
      exact ⟨h1, fun h => h2 (by omega)⟩
theorem cnt_any (b l d : Int) (q : Nat) : ∀ a : List Cp, cntF (fun h => a.any (capIn b l d q h)) 12 ≤ a.countP fun x => exB b l d x.2.1 q
  | [] => by simp; rfl
  | x :: a => by
    have h1 := cnt_any b l d q a
    have h2 := cntF_or_le (fun h => capIn b l d q h x) (fun h => a.any (capIn b l d q h)) 12
    have h3 := (cntF_eq_le x.1 (exB b l d x.2.1 q) 12).1
    rw [List.countP_cons]
    have e : (fun h => (x :: a).any (capIn b l d q h)) = fun h => (capIn b l d q h x || a.any (capIn b l d q h)) := by funext h; rw [List.any_cons]
    rw [e]
    have e2 : cntF (fun h => capIn b l d q h x) 12 = cntF (fun i => decide (x.1 = (i : Int)) && exB b l d x.2.1 q) 12 := rfl
    omega
theorem seen_len {b l d m : Int} {hs : List Int} (hc : Cal b l d m hs) (bad : Int) (a : List Cp) (q : Nat) : cntF (seenC b l d hs bad a q) 12 ≤ hs.length := by
  have e := cntS_eq (fun h => bitB bad h || a.any (capIn b l d q h)) hs (-1) hc.ho
  have : cntF (seenC b l d hs bad a q) 12 = cntF (fun i => hs.contains (i : Int) && (bitB bad i || a.any (capIn b l d q i))) 12 := rfl
  rw [this, ← e]
  exact cntS_le _ _
theorem seen_le (b l d : Int) (hs : List Int) (bad : Int) (a : List Cp) (q : Nat) : cntF (seenC b l d hs bad a q) 12 ≤ cntF (seenC b l d hs bad [] q) 12 + a.countP fun x => exB b l d x.2.1 q := by
  have h1 := cnt_any b l d q a
  have h2 := cntF_or_le (seenC b l d hs bad [] q) (fun h => a.any (capIn b l d q h)) 12
  have h3 := cntF_mono (f := seenC b l d hs bad a q) (g := fun h => seenC b l d hs bad [] q h || a.any (capIn b l d q h)) 12 fun i _ h => by
    unfold seenC at *
    revert h
    cases hs.contains (i : Int) <;> cases bitB bad i <;> cases a.any (capIn b l d q i) <;> simp
  omega
theorem knw_same (b l d : Int) (hs : List Int) (bad : Int) (q : Nat) : cntF (seenC b l d hs bad [] q) 12 = knwL b l d hs bad := rfl

theorem safe_told {b l d m : Int} {hs : List Int} {bad w mo : Int} {a : List Cp} (hs1 : safL b l d m hs bad w mo = true) (hr : redL b l d m hs bad a = 0) (ha : alwB a w mo = true) : telL b l d m hs bad a = [] := by
  apply List.eq_nil_iff_forall_not_mem.2
  intro q hq
  obtain ⟨_, h2, h3, h4⟩ := tel_mem hq
  obtain ⟨hc, _, _, _, hcap⟩ := red0 hr
  unfold safL at hs1
  rw [Bool.and_eq_true] at hs1
  obtain ⟨hs1, hs2⟩ := hs1
  have hs1 := of_decide_eq_true hs1
  have hwm : 1 ≤ w ∧ w ≤ 1000000 ∧ 0 ≤ mo ∧ mo ≤ 12 := by
    unfold safE at hs1
    split at hs1
    · split at hs1
      · rename_i g; exact ⟨g.1, g.2.1, g.2.2.1, g.2.2.2⟩
      · omega
    · contradiction
  have hsq := of_decide_eq_true (List.all_eq_true.1 hs2 q.toNat (List.mem_range.2 (by omega)))
  have htp := of_decide_eq_true h4
  have e1 := seen_len hc bad a q.toNat
  have e2 := seen_le b l d hs bad a q.toNat
  rw [knw_same] at e2
  have e3 : a.countP (fun x => exB b l d x.2.1 q.toNat) ≤ winC a (expF b d q.toNat) ((winL b l d w q.toNat).toNat * w) := List.countP_mono_left fun y hy hpy => by
    have g := of_decide_eq_true hpy
    have g2 := capB_ok (hcap y hy)
    refine decide_eq_true ⟨g.1, ?_⟩
    have hx : 0 ≤ min (expT b l d q.toNat) 1000000 - expF b d q.toNat := by omega
    have g3 := Int.ediv_nonneg hx (by omega : 0 ≤ w)
    have g4 := Int.lt_ediv_add_one_mul_self (min (expT b l d q.toNat) 1000000 - expF b d q.toNat) (by omega : 0 < w)
    have g5 : ((winL b l d w q.toNat).toNat : Int) = (min (expT b l d q.toNat) 1000000 - expF b d q.toNat) / w + 1 := by unfold winL; omega
    rw [g5]
    omega
  have e4 := win_many ha hwm.2.2.1 (expF b d q.toNat) (winL b l d w q.toNat).toNat
  obtain ⟨w1, w2, w3, w4, w5, w6, w7⟩ := win_ok (w := w) (mo := mo) hc hwm.1 hwm.2.2.1 hwm.2.2.2 (q := q.toNat) (by omega)
  have e5 : ((winL b l d w q.toNat).toNat : Int) = winL b l d w q.toNat := by unfold winL; omega
  have e6 : mo * ((winL b l d w q.toNat).toNat : Int) = mo * winL b l d w q.toNat := by rw [e5]
  omega

/-! ### captures that tell, if they can -/
def madeF (bad w mo lim : Int) : List Int → Int → Int → List Cp
  | [], _, _ => []
  | h :: hs, t, n =>
    if bitB bad h.toNat = true ∨ mo = 0 then madeF bad w mo lim hs t n
    else if n = mo then (if t + w ≤ lim then (h, t + w, ()) :: madeF bad w mo lim hs (t + w) 1 else madeF bad w mo lim hs (t + w) 0)
    else (if t ≤ lim then (h, t, ()) :: madeF bad w mo lim hs t (n + 1) else madeF bad w mo lim hs t n)
theorem made_len (bad w mo lim : Int) : ∀ (hs : List Int) (t n : Int), (madeF bad w mo lim hs t n).length ≤ hs.length
  | [], _, _ => Nat.le_refl _
  | h :: hs, t, n => by
    have h1 := made_len bad w mo lim hs
    unfold madeF
    repeat' split
    all_goals simp only [List.length_cons]
    all_goals first | (have := h1 t n; omega) | (have := h1 (t + w) 1; omega) | (have := h1 (t + w) 0; omega) | (have := h1 t (n + 1); omega)
/-- The houses, one after the other; the ticks. -/
theorem made_mem {bad w mo lim : Int} (hw : 1 ≤ w) : ∀ (hs : List Int) (t n : Int), ∀ x ∈ madeF bad w mo lim hs t n, x.1 ∈ hs ∧ ¬ bitB bad x.1.toNat = true ∧ ¬ mo = 0 ∧ x.2.1 ≤ lim ∧ ∃ i : Nat, x.2.1 = t + i * w
  | [], _, _, x, hx => by simp [madeF] at hx
  | h :: hs, t, n, x, hx => by
    have up : ∀ t n, x ∈ madeF bad w mo lim hs t n → x.1 ∈ h :: hs ∧ ¬ bitB bad x.1.toNat = true ∧ ¬ mo = 0 ∧ x.2.1 ≤ lim ∧ ∃ i : Nat, x.2.1 = t + i * w := fun t n hx => by
      obtain ⟨h1, h2⟩ := made_mem hw hs t n x hx
      exact ⟨List.mem_cons_of_mem _ h1, h2⟩
    have up2 : ∀ n, x ∈ madeF bad w mo lim hs (t + w) n → x.1 ∈ h :: hs ∧ ¬ bitB bad x.1.toNat = true ∧ ¬ mo = 0 ∧ x.2.1 ≤ lim ∧ ∃ i : Nat, x.2.1 = t + i * w := fun n hx => by
      obtain ⟨h1, h2, h3, h4, i, h5⟩ := up _ _ hx
      refine ⟨h1, h2, h3, h4, i + 1, ?_⟩
      rw [h5, Int.natCast_add, Int.add_mul]
      simp only [Int.natCast_one, Int.one_mul]
      omega
    unfold madeF at hx
    split at hx
    · exact up _ _ hx
    · rename_i hb
      have hb1 : ¬ bitB bad h.toNat = true := fun g => hb (.inl g)
      have hb2 : ¬ mo = 0 := fun g => hb (.inr g)
      split at hx
      · split at hx
        · rcases List.mem_cons.1 hx with rfl | hx
          · exact ⟨by simp, hb1, hb2, by assumption, 1, by simp⟩
          · exact up2 _ hx
        · exact up2 _ hx
      · split at hx
        · rcases List.mem_cons.1 hx with rfl | hx
          · exact ⟨by simp, hb1, hb2, by assumption, 0, by simp⟩
          · exact up _ _ hx
        · exact up _ _ hx
theorem made_late {bad w mo lim : Int} (hw : 1 ≤ w) : ∀ (hs : List Int) (t n : Int), lim < t → madeF bad w mo lim hs t n = [] := fun hs t n h => by
  apply List.eq_nil_iff_forall_not_mem.2
  intro x hx
  obtain ⟨_, _, _, h4, i, h5⟩ := made_mem hw hs t n x hx
  have := Int.mul_nonneg (Int.natCast_nonneg i) (by omega : 0 ≤ w)
  omega
theorem made_tick {bad w mo lim : Int} (hw : 1 ≤ w) (hm : 0 ≤ mo) : ∀ (hs : List Int) (t n T : Int), 0 ≤ n → n ≤ mo → ((madeF bad w mo lim hs t n).countP (fun x => decide (x.2.1 = T)) : Int) ≤ (if T = t then mo - n else mo)
  | [], t, n, T, h0, h1 => by simp [madeF]; split <;> omega
  | h :: hs, t, n, T, h0, h1 => by
    have late : ∀ n, T = t → (madeF bad w mo lim hs (t + w) n).countP (fun x => decide (x.2.1 = T)) = 0 := fun n e => List.countP_eq_zero.2 fun x hx hp => by
      obtain ⟨_, _, _, _, i, h5⟩ := made_mem hw hs (t + w) n x hx
      have hp := of_decide_eq_true hp
      have := Int.mul_nonneg (Int.natCast_nonneg i) (by omega : 0 ≤ w)
      omega
    unfold madeF
    split
    · exact made_tick (bad := bad) (lim := lim) hw hm hs t n T h0 h1
    · rename_i hb
      have hb2 : ¬ mo = 0 := fun g => hb (.inr g)
      split
      · rename_i hn
        split
        · rw [List.countP_cons]
          by_cases e : T = t
          · rw [late _ e, if_pos e, if_neg (by simp; omega)]; simp; omega
          · rw [if_neg e]
            have := made_tick (bad := bad) (lim := lim) hw hm hs (t + w) 1 T (by omega) (by omega)
            by_cases e2 : T = t + w
            · rw [if_pos e2] at this
              rw [if_pos (by simp; omega)]; omega
            · rw [if_neg e2] at this
              rw [if_neg (by simp; omega)]; omega
        · by_cases e : T = t
          · rw [late _ e, if_pos e]; simp; omega
          · rw [if_neg e]
            have := made_tick (bad := bad) (lim := lim) hw hm hs (t + w) 0 T (by omega) (by omega)
            split at this <;> omega
      · split
        · rw [List.countP_cons]
          have := made_tick (bad := bad) (lim := lim) hw hm hs t (n + 1) T (by omega) (by omega)
          by_cases e : T = t
          · rw [if_pos e] at this ⊢
            rw [if_pos (by simp; omega)]; omega
          · rw [if_neg e] at this ⊢
            rw [if_neg (by simp; omega)]; omega
        · exact made_tick (bad := bad) (lim := lim) hw hm hs t n T h0 h1
theorem made_allowed {bad w mo lim : Int} (hw : 1 ≤ w) (hm : 0 ≤ mo) (hs : List Int) (t : Int) : alwB (madeF bad w mo lim hs t 0) w mo = true := by
  apply List.all_eq_true.2
  intro x hx
  apply decide_eq_true
  obtain ⟨_, _, _, _, i, hi⟩ := made_mem hw hs t 0 x hx
  have h1 := made_tick (bad := bad) (lim := lim) hw hm hs t 0 x.2.1 (by omega) hm
  have h2 : winC (madeF bad w mo lim hs t 0) x.2.1 w ≤ (madeF bad w mo lim hs t 0).countP (fun y => decide (y.2.1 = x.2.1)) := List.countP_mono_left fun y hy hp => by
    obtain ⟨_, _, _, _, j, hj⟩ := made_mem hw hs t 0 y hy
    have hp := of_decide_eq_true hp
    apply decide_eq_true
    rw [hi, hj] at *
    have e1 : (i : Int) * w ≤ j * w := by omega
    have e2 : (j : Int) * w < (i + 1) * w := by rw [Int.add_mul]; omega
    have e3 : i ≤ j := by
      rcases Nat.lt_or_ge j i with g | g
      · have := Int.mul_le_mul_of_nonneg_right (by omega : (j : Int) + 1 ≤ i) (by omega : 0 ≤ w)
        rw [Int.add_mul] at this; omega
      · exact g
    have e4 : j ≤ i := by
      rcases Nat.lt_or_ge i j with g | g
      · have := Int.mul_le_mul_of_nonneg_right (by omega : (i : Int) + 1 ≤ j) (by omega : 0 ≤ w)
        omega
      · exact g
    have : i = j := by omega
    rw [this]
  split at h1 <;> omega
def freeC (bad : Int) (hs : List Int) : Nat := hs.countP fun h => !bitB bad h.toNat
theorem made_many {bad w mo lim : Int} (hw : 1 ≤ w) (hm : 1 ≤ mo) : ∀ (hs : List Int) (t n : Int), 0 ≤ n → n ≤ mo → t ≤ lim → ((madeF bad w mo lim hs t n).length : Int) = min (freeC bad hs : Int) (mo * ((lim - t) / w) + (mo - n))
  | [], t, n, h0, h1, h2 => by
    have := Int.ediv_nonneg (by omega : 0 ≤ lim - t) (by omega : 0 ≤ w)
    have := Int.mul_nonneg (by omega : 0 ≤ mo) this
    simp [madeF, freeC]; omega
  | h :: hs, t, n, h0, h1, h2 => by
    have hd := Int.ediv_nonneg (by omega : 0 ≤ lim - t) (by omega : 0 ≤ w)
    have hp := Int.mul_nonneg (by omega : 0 ≤ mo) hd
    have ef : freeC bad (h :: hs) = freeC bad hs + (if (!bitB bad h.toNat) = true then 1 else 0) := by unfold freeC; rw [List.countP_cons]
    by_cases hb : bitB bad h.toNat = true ∨ mo = 0
    · rw [madeF, if_pos hb]
      have hb : bitB bad h.toNat = true := by rcases hb with g | g; exact g; omega
      rw [made_many hw hm hs t n h0 h1 h2, ef, hb]; simp
    · rw [madeF, if_neg hb]
      have hb1 : bitB bad h.toNat = false := by cases e : bitB bad h.toNat; rfl; exact absurd (.inl e) hb
      rw [hb1] at ef
      simp only [Bool.not_false, if_true] at ef
      rw [ef]
      by_cases hn : n = mo
      · rw [if_pos hn]
        have hdiv : (lim - t) / w = (lim - (t + w)) / w + 1 := by
          rw [show lim - t = (lim - (t + w)) + 1 * w by omega, Int.add_mul_ediv_right _ _ (by omega)]
        by_cases hl : t + w ≤ lim
        · rw [if_pos hl]
          have := made_many (bad := bad) hw hm hs (t + w) 1 (by omega) (by omega) hl
          rw [List.length_cons, Int.natCast_add, this, hdiv, Int.mul_add]
          simp only [Int.mul_one, Int.natCast_one, Int.natCast_add]
          omega
        · rw [if_neg hl, made_late hw _ _ _ (by omega)]
          have : (lim - t) / w = 0 := Int.ediv_eq_zero_of_lt (by omega) (by omega)
          rw [this, Int.mul_zero, List.length_nil]
          omega
      · rw [if_neg hn, if_pos h2]
        have := made_many (bad := bad) hw hm hs t (n + 1) (by omega) (by omega) h2
        rw [List.length_cons, Int.natCast_add, this]
        simp only [Int.natCast_one, Int.natCast_add]
        omega
theorem cntF_or_eq {f g : Nat → Bool} : ∀ k, (∀ i, i < k → ¬ (f i = true ∧ g i = true)) → cntF (fun i => f i || g i) k = cntF f k + cntF g k
  | 0, _ => rfl
  | k + 1, h => by
    have h1 := cntF_or_eq k fun i hi => h i (by omega)
    have h2 := h k (by omega)
    rw [cntF, cntF, cntF, h1]
    cases e1 : f k <;> cases e2 : g k <;> simp [e1, e2] at h2 ⊢ <;> omega
theorem cntF_one {x : Int} (h0 : 0 ≤ x) (h1 : x ≤ 11) : cntF (fun i => decide (x = (i : Int))) 12 = 1 := by
  obtain ⟨n, rfl⟩ : ∃ n : Nat, x = (n : Int) := ⟨x.toNat, by omega⟩
  have : n < 12 := by omega
  have h : ∀ n : Nat, n < 12 → cntF (fun i => decide ((n : Int) = (i : Int))) 12 = 1 := by decide
  exact h n this
/-- Increasing houses. -/
theorem made_inc {bad w mo lim : Int} (hw : 1 ≤ w) : ∀ (hs : List Int) (p t n : Int), hsF p hs = true → (madeF bad w mo lim hs t n).Pairwise (fun x y => x.1 < y.1)
  | [], _, _, _, _ => by simp [madeF]
  | h :: hs, p, t, n, hh => by
    have hh' := hh
    simp only [hsF, Bool.and_eq_true, decide_eq_true_eq] at hh
    have ih := fun t n => made_inc (bad := bad) (mo := mo) (lim := lim) hw hs h t n hh.2
    have hx : ∀ t n, ∀ x ∈ madeF bad w mo lim hs t n, h < x.1 := fun t n x hx => (hsF_all hs h hh.2 _ (made_mem hw hs t n x hx).1).1
    unfold madeF
    split
    · exact ih _ _
    · split
      · split
        · exact List.pairwise_cons.2 ⟨hx _ _, ih _ _⟩
        · exact ih _ _
      · split
        · exact List.pairwise_cons.2 ⟨hx _ _, ih _ _⟩
        · exact ih _ _
theorem cnt_cap {b l d : Int} {q : Nat} : ∀ a : List Cp, a.Pairwise (fun x y => x.1 < y.1) → (∀ x ∈ a, 0 ≤ x.1 ∧ x.1 ≤ 11 ∧ exB b l d x.2.1 q = true) → cntF (fun h => a.any (capIn b l d q h)) 12 = a.length
  | [], _, _ => by simp; rfl
  | x :: a, hp, hx => by
    obtain ⟨h1, h2⟩ := List.pairwise_cons.1 hp
    have ih := cnt_cap a h2 fun y hy => hx y (by simp [hy])
    obtain ⟨x0, x1, x2⟩ := hx x (by simp)
    have e : (fun h : Nat => (x :: a).any (capIn b l d q h)) = fun h : Nat => (decide (x.1 = (h : Int)) || a.any (capIn b l d q h)) := by
      funext h; rw [List.any_cons]; unfold capIn; rw [x2, Bool.and_true]
    rw [e, cntF_or_eq, ih, cntF_one x0 x1, List.length_cons]
    · omega
    · rintro i hi ⟨g1, g2⟩
      obtain ⟨y, hy, g2⟩ := List.any_eq_true.1 g2
      unfold capIn at g2
      rw [Bool.and_eq_true] at g2
      have e1 := of_decide_eq_true g1
      have e2 := of_decide_eq_true g2.1
      have := h1 y hy
      omega
def madeL (b l d : Int) (hs : List Int) (bad w mo : Int) (q : Nat) : List Cp := madeF bad w mo (min (expT b l d q) 1000000) hs (expF b d q) 0
theorem made_caps {b l d m : Int} {hs : List Int} (hc : Cal b l d m hs) {bad w mo : Int} (hw : 1 ≤ w) {q : Nat} : ∀ x ∈ madeL b l d hs bad w mo q, capB x = true ∧ exB b l d x.2.1 q = true := by
  intro x hx
  obtain ⟨h1, h2, h3, h4, i, h5⟩ := made_mem hw _ _ _ x hx
  have g := hsF_all hs (-1) hc.ho _ h1
  have g2 := Int.mul_nonneg (Int.natCast_nonneg i) (by omega : 0 ≤ w)
  have g3 : 0 ≤ expF b d q := by
    unfold expF
    have := hc.b0
    have := Int.mul_nonneg (by omega : 0 ≤ max 0 ((q : Int) - 1)) (by have := hc.n1; omega : 0 ≤ d)
    omega
  exact ⟨decide_eq_true ⟨by omega, by omega, by omega, by omega⟩, decide_eq_true ⟨by omega, by omega⟩⟩
theorem made_red {b l d m : Int} {hs : List Int} (hc : Cal b l d m hs) {bad w mo : Int} (hw : 1 ≤ w) (hb : 0 ≤ bad ∧ bad ≤ 4095) {q : Nat} : redL b l d m hs bad (madeL b l d hs bad w mo q) = 0 := by
  unfold redL
  rw [if_pos hc.chk, if_pos hb]
  have := made_len bad w mo (min (expT b l d q) 1000000) hs (expF b d q) 0
  exact cap0' (by have := hc.h12; unfold madeL; omega) fun x hx => (made_caps hc hw x hx).1
theorem free_knw {b l d m : Int} {hs : List Int} (hc : Cal b l d m hs) (bad : Int) : (freeC bad hs : Int) = hs.length - knwL b l d hs bad := by
  have h1 := knw_many hc bad
  have h2 : ∀ l : List Int, freeC bad l + cntS (fun h => bitB bad h || bitB 0 h) l = l.length := by
    intro l
    induction l with
    | nil => rfl
    | cons x l ih =>
      rw [List.length_cons, ← ih, cntS]
      unfold freeC
      rw [List.countP_cons, bitB_zero]
      cases bitB bad x.toNat <;> simp <;> omega
  have := h2 hs
  omega
theorem made_tells {b l d m : Int} {hs : List Int} (hc : Cal b l d m hs) {bad w mo : Int} (hw : 1 ≤ w) (hm : 0 ≤ mo) (hm2 : mo ≤ 12) (hb : 0 ≤ bad ∧ bad ≤ 4095) {q : Nat} (hq : (q : Int) < cntL b l d)
    (hn : telL b l d m hs bad (madeL b l d hs bad w mo q) = []) : safQ b l d m hs bad w mo q = true := by
  apply decide_eq_true
  apply Classical.byContradiction
  intro hge
  obtain ⟨w1, w2, w3, w4, w5, w6, w7⟩ := win_ok (w := w) (mo := mo) hc hw hm hm2 hq
  have hfr := free_knw hc bad
  have hlen : min ((hs.length : Int) - knwL b l d hs bad) (mo * winL b l d w q) ≤ ((madeL b l d hs bad w mo q).length : Int) := by
    rcases Int.lt_or_le 0 mo with g | g
    · have := made_many (bad := bad) (lim := min (expT b l d q) 1000000) hw g hs (expF b d q) 0 (by omega) (by omega) (by omega)
      unfold madeL
      rw [this, hfr]
      have e : mo * winL b l d w q = mo * ((min (expT b l d q) 1000000 - expF b d q) / w) + (mo - 0) := by unfold winL; rw [Int.mul_add]; omega
      rw [e]
      exact Int.le_refl _
    · have : mo = 0 := by omega
      subst this
      rw [Int.zero_mul]; omega
  have hin := made_inc (bad := bad) (mo := mo) (lim := min (expT b l d q) 1000000) hw hs (-1) (expF b d q) 0 hc.ho
  have hcnt := cnt_cap (b := b) (l := l) (d := d) (q := q) (madeL b l d hs bad w mo q) hin fun x hx => by
    obtain ⟨h1, h2⟩ := made_caps hc hw x hx
    have := capB_ok h1
    exact ⟨this.1, this.2.1, h2⟩
  have hsum : cntF (fun h => seenC b l d hs bad [] q h || (madeL b l d hs bad w mo q).any (capIn b l d q h)) 12 = knwL b l d hs bad + (madeL b l d hs bad w mo q).length := by
    rw [cntF_or_eq, hcnt, knw_same]
    rintro i hi ⟨g1, g2⟩
    obtain ⟨y, hy, g2⟩ := List.any_eq_true.1 g2
    unfold capIn at g2
    rw [Bool.and_eq_true] at g2
    have e2 := of_decide_eq_true g2.1
    have := (made_mem hw _ _ _ y hy).2.1
    rw [e2] at this
    unfold seenC at g1
    simp at g1
    exact this (by simpa using g1.2)
  have hle := cntF_mono (f := fun h => seenC b l d hs bad [] q h || (madeL b l d hs bad w mo q).any (capIn b l d q h)) (g := seenC b l d hs bad (madeL b l d hs bad w mo q) q) 12 fun i hi h => by
    rw [Bool.or_eq_true] at h
    rcases h with h | h
    · unfold seenC at *
      rw [Bool.and_eq_true] at *
      refine ⟨h.1, ?_⟩
      have := h.2
      simp at this
      rw [this]; rfl
    · unfold seenC
      obtain ⟨y, hy, g2⟩ := List.any_eq_true.1 h
      have e1 := (made_mem hw _ _ _ y hy).1
      have g3 := g2
      unfold capIn at g3
      rw [Bool.and_eq_true] at g3
      have e2 := of_decide_eq_true g3.1
      rw [e2] at e1
      rw [h, Bool.or_true, Bool.and_true]
      simpa using e1
  have htp : telP b l d m hs bad (madeL b l d hs bad w mo q) q = true := decide_eq_true (by omega)
  have := mem_tel (made_red (m := m) hc hw hb) hq htp
  rw [hn] at this
  simp at this
theorem safe0 {b l d m : Int} {hs : List Int} {bad w mo : Int} (h : safE b l d m hs bad w mo = 0) : 0 ≤ bad ∧ bad ≤ 4095 ∧ 1 ≤ w ∧ w ≤ 1000000 ∧ 0 ≤ mo ∧ mo ≤ 12 := by
  unfold safE at h
  split at h
  · rename_i h1
    obtain ⟨_, h2, h3, _⟩ := red0 h1
    split at h
    · omega
    · omega
  · contradiction
theorem safe_no {b l d m : Int} {hs : List Int} {bad w mo : Int} (h : ¬ safE b l d m hs bad w mo = 0) : ¬ safL b l d m hs bad w mo = true := by
  intro g
  rw [safL, decide_eq_false h, Bool.false_and] at g
  cases g
end Go.Proofs.Ytgljcfnplkcfhaa.S29

namespace Go.Proofs.Ytgljcfnplkcfhaa.S29
open Go

/-! ### the fewest captures -/
def elig (b l d : Int) (hs : List Int) (q : Nat) (x : Cp) : Bool := exB b l d x.2.1 q && decide (x.1 ∈ hs)
def updK (K : Nat → Bool) (h : Nat) : Nat → Bool := fun i => if i = h then true else K i
def newB (b l d : Int) (hs : List Int) (q : Nat) (K : Nat → Bool) (x : Cp) : Bool := elig b l d hs q x && !K x.1.toNat
def nwF (b l d : Int) (hs : List Int) (q : Nat) : (Nat → Bool) → List Cp → Nat
  | _, [] => 0
  | K, x :: xs => if newB b l d hs q K x = true then nwF b l d hs q (updK K x.1.toNat) xs + 1 else nwF b l d hs q K xs
def gF (b l d : Int) (hs : List Int) (q : Nat) : (Nat → Bool) → Nat → List Cp → Nat → List Int
  | _, _, [], _ => []
  | K, n, x :: xs, k => if n ≠ 0 ∧ newB b l d hs q K x = true then (k : Int) :: gF b l d hs q (updK K x.1.toNat) (n - 1) xs (k + 1) else gF b l d hs q K n xs (k + 1)
def D0 : Cp := (0, (0, ()))
def somL (a : List Cp) (S : List Int) : List Cp := S.map fun i => a.getD i.toNat D0
def K0 (b l d : Int) (hs : List Int) (bad : Int) (q : Nat) : Nat → Bool := seenC b l d hs bad [] q

theorem gF_grd {b l d : Int} {hs : List Int} {need : Int} {q : Nat} : ∀ (xs : List Cp) (k : Nat) (h : List Bool) (ls : List Int) (K : Nat → Bool), h.length = 12 → (∀ i, i < 12 → h.getD i false = K i) → (∀ x ∈ xs, 0 ≤ x.1 ∧ x.1 ≤ 11) →
    grd b l d hs need q xs k h ls = ls ++ gF b l d hs q K (need - ls.length).toNat xs k
  | [], k, h, ls, K, _, _, _ => by simp [grd, gF]
  | x :: xs, k, h, ls, K, hl, hk, hx => by
    obtain ⟨x0, x1⟩ := hx x (by simp)
    have hk1 := hk x.1.toNat (by omega)
    have hiff : grdOk b l d hs need q x h ls ↔ ((need - ls.length).toNat ≠ 0 ∧ newB b l d hs q K x = true) := by
      unfold grdOk newB elig exB
      rw [hk1]
      simp only [Bool.and_eq_true, decide_eq_true_eq, Bool.not_eq_true']
      constructor
      · rintro ⟨⟨⟨h1, h2⟩, h3⟩, h4⟩
        exact ⟨by omega, ⟨h2, h3⟩, by simpa using h4⟩
      · rintro ⟨h1, ⟨h2, h3⟩, h4⟩
        exact ⟨⟨⟨by omega, h2⟩, h3⟩, by simp [h4]⟩
    unfold grd gF
    by_cases hc : grdOk b l d hs need q x h ls
    · rw [if_pos hc, if_pos (hiff.1 hc)]
      rw [gF_grd xs (k + 1) (h.set x.1.toNat true) (ls ++ [(k : Int)]) (updK K x.1.toNat) (by rw [List.length_set]; exact hl) (fun i hi => by
        unfold updK
        by_cases e : i = x.1.toNat
        · rw [if_pos e, e]
          simp [List.getD_eq_getElem?_getD, hl, (by omega : x.1.toNat < 12)]
        · rw [if_neg e, ← hk i hi]
          simp only [List.getD_eq_getElem?_getD, List.getElem?_set]
          rw [if_neg (fun e2 => e e2.symm)]) fun y hy => hx y (by simp [hy])]
      rw [List.append_assoc, List.length_append, List.length_cons, List.length_nil]
      have : (need - ((ls.length + (0 + 1) : Nat) : Int)).toNat = (need - ls.length).toNat - 1 := by omega
      rw [this]; rfl
    · rw [if_neg hc, if_neg (fun g => hc (hiff.2 g))]
      exact gF_grd xs (k + 1) h ls K hl hk fun y hy => hx y (by simp [hy])
theorem gF_len {b l d : Int} {hs : List Int} {q : Nat} : ∀ (xs : List Cp) (K : Nat → Bool) (n k : Nat), (gF b l d hs q K n xs k).length = min n (nwF b l d hs q K xs)
  | [], K, n, k => by simp [gF, nwF]
  | x :: xs, K, n, k => by
    unfold gF nwF
    by_cases hb : newB b l d hs q K x = true
    · by_cases hn : n = 0
      · subst hn
        rw [if_neg (fun g => g.1 rfl), gF_len xs K 0 (k + 1)]; simp
      · rw [if_pos ⟨hn, hb⟩, if_pos hb, List.length_cons, gF_len xs _ (n - 1) (k + 1)]
        omega
    · rw [if_neg (fun g => hb g.2), if_neg hb, gF_len xs K n (k + 1)]
theorem gF_inc {b l d : Int} {hs : List Int} {q : Nat} : ∀ (xs : List Cp) (K : Nat → Bool) (n k : Nat), (gF b l d hs q K n xs k).Pairwise (· < ·) ∧ ∀ i ∈ gF b l d hs q K n xs k, (k : Int) ≤ i ∧ i < k + xs.length
  | [], K, n, k => by simp [gF]
  | x :: xs, K, n, k => by
    unfold gF
    split
    · obtain ⟨h1, h2⟩ := gF_inc (b := b) (l := l) (d := d) (hs := hs) (q := q) xs (updK K x.1.toNat) (n - 1) (k + 1)
      refine ⟨List.pairwise_cons.2 ⟨fun i hi => by have := (h2 i hi).1; omega, h1⟩, fun i hi => ?_⟩
      rw [List.length_cons]
      rcases List.mem_cons.1 hi with rfl | hi
      · omega
      · have := h2 i hi; omega
    · obtain ⟨h1, h2⟩ := gF_inc (b := b) (l := l) (d := d) (hs := hs) (q := q) xs K n (k + 1)
      refine ⟨h1, fun i hi => ?_⟩
      rw [List.length_cons]
      have := h2 i hi; omega
/-- What is taken is new, each in its turn. -/
theorem gF_new {b l d : Int} {hs : List Int} {q : Nat} {a : List Cp} : ∀ (xs : List Cp) (K : Nat → Bool) (n k : Nat), a.drop k = xs → nwF b l d hs q K (somL a (gF b l d hs q K n xs k)) = (gF b l d hs q K n xs k).length
  | [], K, n, k, _ => by simp [gF, somL, nwF]
  | x :: xs, K, n, k, he => by
    obtain ⟨h1, h2, h3⟩ := drop_cons (d := D0) he
    unfold gF
    split
    · rename_i hc
      rw [somL, List.map_cons, nwF, show a.getD ((k : Int)).toNat D0 = x from h2, if_pos hc.2, List.length_cons]
      congr 1
      exact gF_new xs _ _ (k + 1) h3
    · exact gF_new xs K n (k + 1) h3
theorem nwF_le {b l d : Int} {hs : List Int} {q : Nat} : ∀ (xs : List Cp) (K : Nat → Bool), nwF b l d hs q K xs ≤ xs.length
  | [], K => by simp [nwF]
  | x :: xs, K => by
    unfold nwF
    split
    · have := nwF_le (b := b) (l := l) (d := d) (hs := hs) (q := q) xs (updK K x.1.toNat); rw [List.length_cons]; omega
    · have := nwF_le (b := b) (l := l) (d := d) (hs := hs) (q := q) xs K; rw [List.length_cons]; omega
theorem nw_cnt {b l d : Int} {hs : List Int} {q : Nat} : ∀ (xs : List Cp) (K : Nat → Bool), (∀ x ∈ xs, 0 ≤ x.1 ∧ x.1 ≤ 11) → cntF (fun h => K h || xs.any fun x => decide (x.1 = (h : Int)) && elig b l d hs q x) 12 = cntF K 12 + nwF b l d hs q K xs
  | [], K, _ => by simp [nwF]
  | x :: xs, K, hx => by
    obtain ⟨x0, x1⟩ := hx x (by simp)
    have hx' : ∀ y ∈ xs, 0 ≤ y.1 ∧ y.1 ≤ 11 := fun y hy => hx y (by simp [hy])
    unfold nwF
    by_cases hb : newB b l d hs q K x = true
    · rw [if_pos hb]
      unfold newB at hb
      rw [Bool.and_eq_true, Bool.not_eq_true'] at hb
      have ih := nw_cnt (b := b) (l := l) (d := d) (hs := hs) (q := q) xs (updK K x.1.toNat) hx'
      have hc : cntF (updK K x.1.toNat) 12 = cntF K 12 + 1 := cntF_ins (b := true) hb.2 12 (by omega)
      rw [← Nat.add_assoc, Nat.add_right_comm, ← hc, ← ih]
      refine cntF_congr fun i hi => ?_
      rw [List.any_cons]
      unfold updK
      by_cases e : i = x.1.toNat
      · rw [if_pos e, hb.1, decide_eq_true (show x.1 = (i : Int) by omega)]; simp
      · rw [if_neg e, decide_eq_false (show ¬ x.1 = (i : Int) by omega)]; simp
    · rw [if_neg hb, ← nw_cnt (b := b) (l := l) (d := d) (hs := hs) (q := q) xs K hx']
      refine cntF_congr fun i hi => ?_
      rw [List.any_cons]
      unfold newB at hb
      rw [Bool.and_eq_true, Bool.not_eq_true'] at hb
      by_cases e : x.1 = (i : Int)
      · by_cases g : elig b l d hs q x = true
        · have hk : K i = true := by
            have : x.1.toNat = i := by omega
            rw [this] at hb
            cases hk : K i with
            | true => rfl
            | false => exact absurd ⟨g, hk⟩ hb
          rw [hk]; simp
        · rw [Bool.not_eq_true] at g; rw [g]; simp
      · rw [decide_eq_false e]; simp
theorem seen_new {b l d : Int} {hs : List Int} {bad : Int} {q : Nat} (xs : List Cp) (hx : ∀ x ∈ xs, 0 ≤ x.1 ∧ x.1 ≤ 11) : cntF (seenC b l d hs bad xs q) 12 = knwL b l d hs bad + nwF b l d hs q (K0 b l d hs bad q) xs := by
  rw [← knw_same b l d hs bad q]
  show _ = cntF (K0 b l d hs bad q) 12 + _
  rw [← nw_cnt xs _ hx]
  refine cntF_congr fun i hi => ?_
  unfold K0 seenC elig capIn
  rw [List.any_nil, Bool.or_false]
  cases hcon : hs.contains (i : Int) with
  | false =>
    rw [Bool.false_and, Bool.false_and, Bool.false_or]
    symm
    rw [List.any_eq_false]
    intro x hx
    rw [Bool.and_eq_true, Bool.and_eq_true]
    rintro ⟨h1, _, h2⟩
    have h1 := of_decide_eq_true h1
    have h2 := of_decide_eq_true h2
    rw [h1] at h2
    have : hs.contains (i : Int) = true := by simpa using h2
    rw [hcon] at this; cases this
  | true =>
    rw [Bool.true_and, Bool.true_and]
    congr 1
    induction xs with
    | nil => rfl
    | cons x xs ih =>
      rw [List.any_cons, List.any_cons, ih fun y hy => hx y (by simp [hy])]
      congr 1
      by_cases e : x.1 = (i : Int)
      · rw [decide_eq_true e, Bool.true_and, Bool.true_and]
        have : decide (x.1 ∈ hs) = true := decide_eq_true (by rw [e]; simpa using hcon)
        rw [this, Bool.and_true]
      · rw [decide_eq_false e]; rfl
theorem tel_need {b l d m : Int} {hs : List Int} {bad : Int} {xs : List Cp} (h : telL b l d m hs bad xs ≠ []) : lstN b l d m hs bad ≤ xs.length := by
  obtain ⟨q, hq⟩ : ∃ q, q ∈ telL b l d m hs bad xs := by
    cases e : telL b l d m hs bad xs with
    | nil => exact absurd e h
    | cons q r => exact ⟨q, by simp⟩
  obtain ⟨h0, h1, h2, h3⟩ := tel_mem hq
  have h4 := of_decide_eq_true h3
  have h5 := seen_le b l d hs bad xs q.toNat
  rw [knw_same] at h5
  have h6 : xs.countP (fun x => exB b l d x.2.1 q.toNat) ≤ xs.length := List.countP_le_length
  unfold lstN
  omega
theorem bst_is {b l d m : Int} {hs : List Int} {bad : Int} {a : List Cp} : ∀ (T : List Int) (best : List Int), bst b l d m hs bad a T best = best ∨ ∃ q ∈ T, bst b l d m hs bad a T best = grdL b l d m hs bad a q
  | [], best => .inl rfl
  | q :: T, best => by
    unfold bst
    rcases bst_is (b := b) (l := l) (d := d) (m := m) (hs := hs) (bad := bad) (a := a) T (if best = [] ∨ cmpS (grdL b l d m hs bad a q) best < 0 then grdL b l d m hs bad a q else best) with h | ⟨q', h1, h2⟩
    · rw [h]
      split
      · exact .inr ⟨q, by simp, rfl⟩
      · exact .inl rfl
    · exact .inr ⟨q', by simp [h1], h2⟩
theorem lst_is {b l d m : Int} {hs : List Int} {bad : Int} {a : List Cp} (h : lstE b l d m hs bad a = 0) : redL b l d m hs bad a = 0 ∧ ∃ q ∈ telL b l d m hs bad a, lstL b l d m hs bad a = grdL b l d m hs bad a q := by
  have e : lstL b l d m hs bad a = bst b l d m hs bad a (telL b l d m hs bad a) [] := if_pos h
  unfold lstE at h
  split at h
  · rename_i h0
    split at h
    · omega
    · rename_i hne
      refine ⟨h0, ?_⟩
      rw [e]
      cases ht : telL b l d m hs bad a with
      | nil => exact absurd ht hne
      | cons q T =>
        unfold bst
        rw [if_pos (.inl rfl)]
        rcases bst_is (b := b) (l := l) (d := d) (m := m) (hs := hs) (bad := bad) (a := a) T (grdL b l d m hs bad a q) with h | ⟨q', h1, h2⟩
        · exact ⟨q, by simp, h⟩
        · exact ⟨q', by simp [h1], h2⟩
  · contradiction
theorem grdL_gF {b l d m : Int} {hs : List Int} {bad : Int} {a : List Cp} {q : Int} (h0 : 0 ≤ q) (ha : ∀ x ∈ a, capB x = true) : grdL b l d m hs bad a q = gF b l d hs q.toNat (K0 b l d hs bad q.toNat) (lstN b l d m hs bad).toNat a 0 := by
  have e : ((q.toNat : Nat) : Int) = q := by omega
  have h := gF_grd (b := b) (l := l) (d := d) (hs := hs) (need := lstN b l d m hs bad) (q := q.toNat) a 0 (rowL b l d hs bad q.toNat) [] (K0 b l d hs bad q.toNat) (rowL_len ..) (fun i hi => row_get hi false) fun x hx => by
    have := capB_ok (ha x hx); omega
  rw [e] at h
  unfold grdL
  rw [h, List.nil_append]
  congr 1
  simp
theorem grdL_ok {b l d m : Int} {hs : List Int} {bad : Int} {a : List Cp} {q : Int} (hq : q ∈ telL b l d m hs bad a) :
    (grdL b l d m hs bad a q).Pairwise (· < ·) ∧ (∀ i ∈ grdL b l d m hs bad a q, 0 ≤ i ∧ i < a.length) ∧ ((grdL b l d m hs bad a q).length : Int) = lstN b l d m hs bad ∧ q ∈ telL b l d m hs bad (somL a (grdL b l d m hs bad a q)) := by
  obtain ⟨h0, h1, h2, h3⟩ := tel_mem hq
  obtain ⟨hc, hb0, hb1, hl, hcap⟩ := red0 h0
  have e : ((q.toNat : Nat) : Int) = q := by omega
  have hcap' : ∀ x ∈ a, 0 ≤ x.1 ∧ x.1 ≤ 11 := fun x hx => by have := capB_ok (hcap x hx); omega
  have h4 := of_decide_eq_true h3
  rw [seen_new a hcap'] at h4
  have hN : 0 ≤ lstN b l d m hs bad := by unfold lstN; omega
  rw [grdL_gF h1 hcap]
  obtain ⟨p1, p2⟩ := gF_inc (b := b) (l := l) (d := d) (hs := hs) (q := q.toNat) a (K0 b l d hs bad q.toNat) (lstN b l d m hs bad).toNat 0
  have p3 := gF_len (b := b) (l := l) (d := d) (hs := hs) (q := q.toNat) a (K0 b l d hs bad q.toNat) (lstN b l d m hs bad).toNat 0
  have p4 := gF_new (b := b) (l := l) (d := d) (hs := hs) (q := q.toNat) (a := a) a (K0 b l d hs bad q.toNat) (lstN b l d m hs bad).toNat 0 rfl
  have hlen : ((gF b l d hs q.toNat (K0 b l d hs bad q.toNat) (lstN b l d m hs bad).toNat a 0).length : Int) = lstN b l d m hs bad := by
    rw [p3]
    unfold lstN at *
    omega
  refine ⟨p1, fun i hi => by have := p2 i hi; omega, hlen, ?_⟩
  have hsub : ∀ x ∈ somL a (gF b l d hs q.toNat (K0 b l d hs bad q.toNat) (lstN b l d m hs bad).toNat a 0), x ∈ a := fun x hx => by
    obtain ⟨i, hi, rfl⟩ := List.mem_map.1 hx
    have := p2 i hi
    exact getD_mem D0 a i.toNat (by omega)
  have hr : redL b l d m hs bad (somL a (gF b l d hs q.toNat (K0 b l d hs bad q.toNat) (lstN b l d m hs bad).toNat a 0)) = 0 := by
    unfold redL
    rw [if_pos hc.chk, if_pos ⟨hb0, hb1⟩]
    refine cap0' ?_ fun x hx => hcap x (hsub x hx)
    unfold somL
    rw [List.length_map]
    have p5 := nwF_le (b := b) (l := l) (d := d) (hs := hs) (q := q.toNat) a (K0 b l d hs bad q.toNat)
    omega
  have ht : telP b l d m hs bad (somL a (gF b l d hs q.toNat (K0 b l d hs bad q.toNat) (lstN b l d m hs bad).toNat a 0)) q.toNat = true := by
    apply decide_eq_true
    rw [seen_new _ fun x hx => hcap' x (hsub x hx), p4]
    unfold lstN at *
    omega
  have := mem_tel hr (by rw [e]; exact h2) ht
  rwa [e] at this
theorem lst_ok {b l d m : Int} {hs : List Int} {bad : Int} {a : List Cp} (h : lstE b l d m hs bad a = 0) :
    Srt (lstL b l d m hs bad a) ∧ (∀ i, i < (lstL b l d m hs bad a).length → 0 ≤ (lstL b l d m hs bad a).getD i 0 ∧ (lstL b l d m hs bad a).getD i 0 < a.length) ∧ ((lstL b l d m hs bad a).length : Int) = lstN b l d m hs bad ∧ telL b l d m hs bad (somL a (lstL b l d m hs bad a)) ≠ [] := by
  obtain ⟨_, q, hq, e⟩ := lst_is h
  obtain ⟨h1, h2, h3, h4⟩ := grdL_ok hq
  rw [e]
  refine ⟨srt_of h1, fun i hi => h2 _ (getD_mem 0 _ i hi), h3, fun e => ?_⟩
  rw [e] at h4
  simp at h4
theorem red_sub {b l d m : Int} {hs : List Int} {bad : Int} {a xs : List Cp} (h : redL b l d m hs bad a = 0) (hl : xs.length ≤ 500) (hx : ∀ x ∈ xs, x ∈ a) : redL b l d m hs bad xs = 0 := by
  obtain ⟨hc, hb0, hb1, _, hcap⟩ := red0 h
  unfold redL
  rw [if_pos hc.chk, if_pos ⟨hb0, hb1⟩]
  exact cap0' hl fun x hx' => hcap x (hx x hx')
theorem tel_more {b l d m : Int} {hs : List Int} {bad : Int} {a xs : List Cp} (h : redL b l d m hs bad a = 0) (hx : ∀ x ∈ xs, x ∈ a) : ∀ q ∈ telL b l d m hs bad xs, q ∈ telL b l d m hs bad a := by
  intro q hq
  obtain ⟨h0, h1, h2, h3⟩ := tel_mem hq
  have e : ((q.toNat : Nat) : Int) = q := by omega
  have h4 := of_decide_eq_true h3
  have h5 := cntF_mono (f := seenC b l d hs bad xs q.toNat) (g := seenC b l d hs bad a q.toNat) 12 fun i _ g => by
    unfold seenC at *
    rw [Bool.and_eq_true, Bool.or_eq_true] at *
    refine ⟨g.1, g.2.imp_right fun g => ?_⟩
    rw [List.any_eq_true] at *
    obtain ⟨y, hy, e⟩ := g
    exact ⟨y, hx y hy, e⟩
  have := mem_tel h (q := q.toNat) (by rw [e]; exact h2) (decide_eq_true (by omega))
  rwa [e] at this
theorem tel_none {b l d m : Int} {hs : List Int} {bad : Int} {a xs : List Cp} (h : redL b l d m hs bad a = 0) (hx : ∀ x ∈ xs, x ∈ a) (hn : telL b l d m hs bad a = []) : telL b l d m hs bad xs = [] := by
  apply List.eq_nil_iff_forall_not_mem.2
  intro q hq
  have := tel_more h hx q hq
  rw [hn] at this
  simp at this
theorem cap_few (a : List Cp) : capL a = 0 ∨ capL a = 2 ∨ capL a = 3 := by
  unfold capL
  split
  · exact .inr (.inl rfl)
  · split
    · exact .inl rfl
    · exact .inr (.inr rfl)
theorem chk_few (b l d m : Int) (hs : List Int) : 0 ≤ chkL b l d m hs ∧ chkL b l d m hs ≤ 3 := by unfold chkL; repeat' split; all_goals omega
theorem red_few (b l d m : Int) (hs : List Int) (bad : Int) (a : List Cp) : 0 ≤ redL b l d m hs bad a ∧ redL b l d m hs bad a ≤ 3 := by
  have h1 := chk_few b l d m hs
  have h2 := cap_few a
  unfold redL; repeat' split
  all_goals omega
theorem lst_eight {b l d m : Int} {hs : List Int} {bad : Int} {a : List Cp} (h : lstE b l d m hs bad a = 8) : redL b l d m hs bad a = 0 ∧ telL b l d m hs bad a = [] := by
  have h1 := red_few b l d m hs bad a
  unfold lstE at h
  split at h
  · rename_i h0
    split at h
    · rename_i h2; exact ⟨h0, h2⟩
    · omega
  · omega
theorem lst_nil {b l d m : Int} {hs : List Int} {bad : Int} {a : List Cp} (h : ¬ lstE b l d m hs bad a = 0) : lstL b l d m hs bad a = [] := if_neg h
theorem somL_snoc {a : List Cp} {L : List Int} {k : Nat} (hk : k < L.length) : somL a (L.take (k + 1)) = somL a (L.take k) ++ [a.getD (L.getD k 0).toNat (0, (0, ()))] := by
  rw [take_snoc 0 L k hk]; unfold somL; rw [List.map_append]; rfl
def lessL (S : List Cp) (j : Nat) : List Cp := (([] : List Cp) ++ ((S.drop 0).take (j - 0))) ++ ((S.drop (((j : Int) + 1).toNat)).take (S.length - ((j : Int) + 1).toNat))
theorem less_mem {S : List Cp} {j : Nat} : ∀ x ∈ lessL S j, x ∈ S := by
  intro x hx
  unfold lessL at hx
  rcases List.mem_append.1 hx with hx | hx
  · rw [List.nil_append] at hx
    exact List.mem_of_mem_drop (List.mem_of_mem_take hx)
  · exact List.mem_of_mem_drop (List.mem_of_mem_take hx)
theorem less_len {S : List Cp} {j : Nat} (h : j < S.length) : (lessL S j).length + 1 = S.length := by
  unfold lessL
  simp only [List.length_append, List.length_take, List.length_drop, List.length_nil]
  omega
theorem less_le {S : List Cp} {j : Nat} : (lessL S j).length ≤ S.length + S.length := by
  unfold lessL
  simp only [List.length_append, List.length_take, List.length_drop, List.length_nil]
  omega
theorem less_none {b l d m : Int} {hs : List Int} {bad : Int} {S : List Cp} {j : Nat} (h : j < S.length) (hn : (S.length : Int) = lstN b l d m hs bad) : telL b l d m hs bad (lessL S j) = [] := by
  apply Classical.byContradiction
  intro hne
  have h1 := tel_need hne
  have h2 := less_len h
  omega
theorem som_mem {a : List Cp} {L : List Int} (h : ∀ i, i < L.length → 0 ≤ L.getD i 0 ∧ L.getD i 0 < a.length) (k : Nat) : ∀ x ∈ somL a (L.take k), x ∈ a := by
  intro x hx
  obtain ⟨y, hy, rfl⟩ := List.mem_map.1 hx
  obtain ⟨p, h1, h2⟩ := mem_getD (List.mem_of_mem_take hy)
  have := h p h1
  rw [h2] at this
  exact getD_mem D0 a y.toNat (by omega)
theorem som_len (a : List Cp) (L : List Int) (k : Nat) : (somL a (L.take k)).length = min k L.length := by unfold somL; simp
end Go.Proofs.Ytgljcfnplkcfhaa.S29

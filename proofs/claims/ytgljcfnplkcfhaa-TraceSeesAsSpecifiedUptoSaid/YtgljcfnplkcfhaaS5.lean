/- Texts of this claim: S38.Qp. -/
import Derived.Test.YtgljcfnplkcfhaaS3
set_option linter.unusedVariables false
set_option linter.unusedSimpArgs false
namespace Go.Proofs.Ytgljcfnplkcfhaa.S38
open Go

theorem fO_t {o : Int} {l : List (Int × (Int × (Int × (List Int × (Int × (Int × (Int × (Int × (Int × (Int × Unit))))))))))} {k : Nat} (hk : k < l.length) (h : (l.getD k d0).2.2.1 = o) : fO o (l.take (k + 1)) = fO o (l.take k) ++ [l.getD k d0] := by
  unfold fO; exact fil_t hk (decide_eq_true h)
theorem fO_f {o : Int} {l : List (Int × (Int × (Int × (List Int × (Int × (Int × (Int × (Int × (Int × (Int × Unit))))))))))} {k : Nat} (hk : k < l.length) (h : ¬ (l.getD k d0).2.2.1 = o) : fO o (l.take (k + 1)) = fO o (l.take k) := by
  unfold fO; exact fil_f hk (decide_eq_false h)
theorem filO_t {p : (Int × (Int × (Int × (List Int × (Int × (Int × (Int × (Int × (Int × (Int × Unit)))))))))) → Bool} {o : Int} {l : List (Int × (Int × (Int × (List Int × (Int × (Int × (Int × (Int × (Int × (Int × Unit))))))))))} {k : Nat} (hk : k < l.length) (h : (l.getD k d0).2.2.1 = o) (hp : p (l.getD k d0) = true) : (fO o (l.take (k + 1))).filter p = (fO o (l.take k)).filter p ++ [l.getD k d0] := by
  rw [fO_t hk h, List.filter_append, List.filter_cons, if_pos hp, List.filter_nil]
theorem filO_f {p : (Int × (Int × (Int × (List Int × (Int × (Int × (Int × (Int × (Int × (Int × Unit)))))))))) → Bool} {o : Int} {l : List (Int × (Int × (Int × (List Int × (Int × (Int × (Int × (Int × (Int × (Int × Unit))))))))))} {k : Nat} (hk : k < l.length) (h : ¬ ((l.getD k d0).2.2.1 = o ∧ p (l.getD k d0) = true)) : (fO o (l.take (k + 1))).filter p = (fO o (l.take k)).filter p := by
  by_cases g : (l.getD k d0).2.2.1 = o
  · rw [fO_t hk g, List.filter_append, List.filter_cons, if_neg fun q => h ⟨g, q⟩, List.filter_nil, List.append_nil]
  · rw [fO_f hk g]
theorem idO_t {p : (Int × (Int × (Int × (List Int × (Int × (Int × (Int × (Int × (Int × (Int × Unit)))))))))) → Bool} {o : Int} {l : List (Int × (Int × (Int × (List Int × (Int × (Int × (Int × (Int × (Int × (Int × Unit))))))))))} {k : Nat} (hk : k < l.length) (h : (l.getD k d0).2.2.1 = o) (hp : p (l.getD k d0) = true) : idsF p (fO o (l.take (k + 1))) = idsF p (fO o (l.take k)) ++ [(l.getD k d0).1] := by
  unfold idsF; rw [filO_t hk h hp, List.map_append]; rfl
theorem idO_f {p : (Int × (Int × (Int × (List Int × (Int × (Int × (Int × (Int × (Int × (Int × Unit)))))))))) → Bool} {o : Int} {l : List (Int × (Int × (Int × (List Int × (Int × (Int × (Int × (Int × (Int × (Int × Unit))))))))))} {k : Nat} (hk : k < l.length) (h : ¬ ((l.getD k d0).2.2.1 = o ∧ p (l.getD k d0) = true)) : idsF p (fO o (l.take (k + 1))) = idsF p (fO o (l.take k)) := by
  unfold idsF; rw [filO_f hk h]
theorem orO_t {p : (Int × (Int × (Int × (List Int × (Int × (Int × (Int × (Int × (Int × (Int × Unit)))))))))) → Bool} {o : Int} {l : List (Int × (Int × (Int × (List Int × (Int × (Int × (Int × (Int × (Int × (Int × Unit))))))))))} {k : Nat} (hk : k < l.length) (h : (l.getD k d0).2.2.1 = o) (hp : p (l.getD k d0) = true) : orF p (fO o (l.take (k + 1))) = orF p (fO o (l.take k)) ||| (1 * 2 ^ (l.getD k d0).2.2.2.2.1.toNat : Int).toNat := by
  unfold orF; rw [filO_t hk h hp, List.foldl_append]; rfl
theorem orO_f {p : (Int × (Int × (Int × (List Int × (Int × (Int × (Int × (Int × (Int × (Int × Unit)))))))))) → Bool} {o : Int} {l : List (Int × (Int × (Int × (List Int × (Int × (Int × (Int × (Int × (Int × (Int × Unit))))))))))} {k : Nat} (hk : k < l.length) (h : ¬ ((l.getD k d0).2.2.1 = o ∧ p (l.getD k d0) = true)) : orF p (fO o (l.take (k + 1))) = orF p (fO o (l.take k)) := by
  unfold orF; rw [filO_f hk h]
theorem ids_o_len (p : (Int × (Int × (Int × (List Int × (Int × (Int × (Int × (Int × (Int × (Int × Unit)))))))))) → Bool) (o : Int) (l : List (Int × (Int × (Int × (List Int × (Int × (Int × (Int × (Int × (Int × (Int × Unit))))))))))) (k : Nat) : (idsF p (fO o (l.take k))).length ≤ l.length := Nat.le_trans (idsF_len _ _) (Nat.le_trans (fO_len _ _) (tk_len _ _))
/-- A house in a set. -/
theorem bit_all : ((List.range 12).all fun h => (List.range 4096).all fun s => decide (s ||| 2 ^ h < 4096) && if s / 2 ^ h % 2 = 1 then decide (s ||| 2 ^ h = s) else decide (s ||| 2 ^ h = s + 2 ^ h)) = true := by decide +kernel
theorem bit_or {s h : Nat} (hs : s ≤ 4095) (hh : h ≤ 11) : s ||| 2 ^ h ≤ 4095 ∧ (s / 2 ^ h % 2 = 1 → s ||| 2 ^ h = s) ∧ (¬ s / 2 ^ h % 2 = 1 → s ||| 2 ^ h = s + 2 ^ h) := by
  have h1 := List.all_eq_true.1 bit_all h (List.mem_range.2 (by omega))
  have h2 := List.all_eq_true.1 h1 s (List.mem_range.2 (by omega))
  simp only [Bool.and_eq_true, decide_eq_true_eq] at h2
  refine ⟨by omega, fun g => ?_, fun g => ?_⟩
  · have := h2.2; rw [if_pos g] at this; exact of_decide_eq_true this
  · have := h2.2; rw [if_neg g] at this; exact of_decide_eq_true this
theorem pow_cast (h : Nat) : ((1 : Int) * 2 ^ h).toNat = 2 ^ h := by
  rw [Int.one_mul]
  have : ((2 : Int) ^ h) = ((2 ^ h : Nat) : Int) := by rw [Int.natCast_pow]; rfl
  rw [this, Int.toNat_natCast]
theorem pow_castI (h : Nat) : ((2 : Int) ^ h) = ((2 ^ h : Nat) : Int) := by rw [Int.natCast_pow]; rfl
theorem in_nat {s h : Int} (h0 : 0 ≤ s) : (s / 2 ^ h.toNat % 2 = 1) ↔ s.toNat / 2 ^ h.toNat % 2 = 1 := by
  obtain ⟨n, rfl⟩ : ∃ n : Nat, s = n := ⟨s.toNat, by omega⟩
  rw [pow_castI, Int.toNat_natCast]
  have : ((n : Int) / ((2 ^ h.toNat : Nat) : Int) % 2) = ((n / 2 ^ h.toNat % 2 : Nat) : Int) := by rw [Int.natCast_emod, Int.natCast_ediv]; rfl
  rw [this]; omega
theorem orF_le {p : (Int × (Int × (Int × (List Int × (Int × (Int × (Int × (Int × (Int × (Int × Unit)))))))))) → Bool} {L : List (Int × (Int × (Int × (List Int × (Int × (Int × (Int × (Int × (Int × (Int × Unit))))))))))} (h : ∀ a ∈ L, 0 ≤ a.2.2.2.2.1 ∧ a.2.2.2.2.1 ≤ 11) : orF p L ≤ 4095 := by
  unfold orF
  have : ∀ (F : List (Int × (Int × (Int × (List Int × (Int × (Int × (Int × (Int × (Int × (Int × Unit))))))))))) (s : Nat), (∀ a ∈ F, 0 ≤ a.2.2.2.2.1 ∧ a.2.2.2.2.1 ≤ 11) → s ≤ 4095 → F.foldl (fun s a => s ||| (1 * 2 ^ a.2.2.2.2.1.toNat : Int).toNat) s ≤ 4095 := fun F => by
    induction F with
    | nil => exact fun s _ h => h
    | cons a F ih =>
      intro s hF hs
      have ha := hF a (by simp)
      exact ih _ (fun b hb => hF b (by simp [hb])) (by show s ||| (1 * 2 ^ a.2.2.2.2.1.toNat : Int).toNat ≤ 4095; rw [pow_cast]; exact (bit_or hs (by omega)).1)
  exact this _ 0 (fun a ha => h a (List.mem_filter.1 ha).1) (by omega)
theorem sh_nonneg {x : Int} (h : 0 ≤ x) (i : Nat) : 0 ≤ x / 2 ^ i := Int.ediv_nonneg h (Int.pow_nonneg (by decide))
theorem div2 (x : Int) (i : Nat) : x / 2 ^ (i + 1) = x / 2 ^ i / 2 := by
  rw [Int.ediv_ediv_of_nonneg (Int.pow_nonneg (by decide)), Int.pow_succ]
theorem pow_le11 {i : Nat} (h : i ≤ 11) : (1 : Int) ≤ 2 ^ i ∧ (2 : Int) ^ i ≤ 2048 := by
  have := pow_small (h := (i : Int)) (by omega) (by omega)
  rw [Int.toNat_natCast, Int.one_mul] at this
  exact this
theorem idsF_get {p : (Int × (Int × (Int × (List Int × (Int × (Int × (Int × (Int × (Int × (Int × Unit)))))))))) → Bool} {F : List (Int × (Int × (Int × (List Int × (Int × (Int × (Int × (Int × (Int × (Int × Unit))))))))))} {k : Nat} (hk : k < (F.filter p).length) : (idsF p F).getD k 0 = ((F.filter p).getD k d0).1 := by
  unfold idsF
  rw [List.getD_eq_getElem?_getD, List.getD_eq_getElem?_getD, List.getElem?_map, List.getElem?_eq_getElem hk]; rfl
def orK (L : List (Int × (Int × (Int × (List Int × (Int × (Int × (Int × (Int × (Int × (Int × Unit))))))))))) : Nat := L.foldl (fun s a => s ||| (1 * 2 ^ a.2.2.2.2.1.toNat : Int).toNat) 0
theorem orK_snoc {L : List (Int × (Int × (Int × (List Int × (Int × (Int × (Int × (Int × (Int × (Int × Unit))))))))))} {k : Nat} (hk : k < L.length) : orK (L.take (k + 1)) = orK (L.take k) ||| (1 * 2 ^ (L.getD k d0).2.2.2.2.1.toNat : Int).toNat := by
  unfold orK; rw [take_snoc d0 L k hk, List.foldl_append]; rfl
theorem orK_le {l : List (Int × (Int × (Int × (List Int × (Int × (Int × (Int × (Int × (Int × (Int × Unit))))))))))} {o t : Int} (hc : chkL l = 0) (k : Nat) : orK (((fO o l).filter (pT t)).take k) ≤ 4095 := by
  have h := orF_le (p := fun _ => true) (L := ((fO o l).filter (pT t)).take k) (fun a ha => by
    have g := fmd_all (chk_fmd hc (List.mem_filter.1 (List.mem_filter.1 (List.mem_of_mem_take ha)).1).1)
    exact ⟨g.2.2.2.2.2.2.1, g.2.2.2.2.2.2.2.1⟩)
  unfold orF at h
  rw [List.filter_eq_self.2 (fun _ _ => rfl)] at h
  exact h
theorem whr_step {l F : List (Int × (Int × (Int × (List Int × (Int × (Int × (Int × (Int × (Int × (Int × Unit))))))))))} {k : Nat} {y : Int} (hc : chkL l = 0) (hF : ∀ a ∈ F, a ∈ l) (hk : k < F.length) (hy : y = (F.getD k d0).1) :
    0 ≤ findL (l.take ((l.length : Int)).toNat) y ∧ findL (l.take ((l.length : Int)).toNat) y < l.length ∧ l.getD (findL (l.take ((l.length : Int)).toNat) y).toNat d0 = F.getD k d0 ∧ 0 ≤ (F.getD k d0).2.2.2.2.1 ∧ (F.getD k d0).2.2.2.2.1 ≤ 11 := by
  have hm := hF _ (getD_mem d0 F k hk)
  obtain ⟨m, hm1, hm2⟩ := List.mem_iff_getElem.1 hm
  have hg : l.getD m d0 = F.getD k d0 := by rw [List.getD_eq_getElem?_getD, List.getElem?_eq_getElem hm1]; exact hm2
  have hf : findL (l.take ((l.length : Int)).toNat) y = m := by rw [Int.toNat_natCast, List.take_length, hy, ← hg]; exact find_self hc hm1
  have g := fmd_all (chk_fmd hc hm)
  rw [hf, Int.toNat_natCast]
  exact ⟨by omega, by omega, hg, g.2.2.2.2.2.2.1, g.2.2.2.2.2.2.2.1⟩
/-- The holders of the shares of a period. -/
def hdK (l : List (Int × (Int × (Int × (List Int × (Int × (Int × (Int × (Int × (Int × (Int × Unit))))))))))) (o p : Int) : Nat → List Int
  | 0 => []
  | n + 1 => if (l.getD n d0).2.2.2.2.2.2.2.2.1 ∉ hdK l o p n ∧ (l.getD n d0).2.1 = 3 ∧ (l.getD n d0).2.2.1 = o ∧ (l.getD n d0).2.2.2.2.2.2.2.2.2.1 = p then hdK l o p n ++ [(l.getD n d0).2.2.2.2.2.2.2.2.1] else hdK l o p n
theorem hdK_len (l : List (Int × (Int × (Int × (List Int × (Int × (Int × (Int × (Int × (Int × (Int × Unit))))))))))) (o p : Int) : ∀ n, (hdK l o p n).length ≤ n
  | 0 => Nat.le_refl _
  | n + 1 => by
    have := hdK_len l o p n
    unfold hdK
    split
    · rw [List.length_append]; exact Nat.add_le_add this (Nat.le_refl _)
    · omega
theorem hdK_nd (l : List (Int × (Int × (Int × (List Int × (Int × (Int × (Int × (Int × (Int × (Int × Unit))))))))))) (o p : Int) : ∀ n, (hdK l o p n).Nodup
  | 0 => List.nodup_nil
  | n + 1 => by
    have := hdK_nd l o p n
    unfold hdK
    split
    · rename_i h
      refine List.nodup_append.2 ⟨this, by simp, fun a ha b hb => ?_⟩
      rw [List.mem_singleton.1 hb]
      rintro rfl
      exact h.1 ha
    · exact this
theorem hdK_iff {l : List (Int × (Int × (Int × (List Int × (Int × (Int × (Int × (Int × (Int × (Int × Unit))))))))))} {o p x : Int} : ∀ {n : Nat}, n ≤ l.length → (x ∈ hdK l o p n ↔ ∃ k, k < n ∧ (l.getD k d0).2.1 = 3 ∧ (l.getD k d0).2.2.1 = o ∧ (l.getD k d0).2.2.2.2.2.2.2.2.2.1 = p ∧ (l.getD k d0).2.2.2.2.2.2.2.2.1 = x)
  | 0, _ => by simp [hdK]
  | n + 1, hn => by
    have ih := hdK_iff (l := l) (o := o) (p := p) (x := x) (n := n) (by omega)
    unfold hdK
    split
    · rename_i h
      rw [List.mem_append, ih]
      constructor
      · rintro (⟨k, h1, h2⟩ | h1)
        · exact ⟨k, by omega, h2⟩
        · exact ⟨n, by omega, h.2.1, h.2.2.1, h.2.2.2, (List.mem_singleton.1 h1).symm⟩
      · rintro ⟨k, h1, h2⟩
        rcases Nat.lt_or_ge k n with g | g
        · exact .inl ⟨k, g, h2⟩
        · have : k = n := by omega
          subst this; exact .inr (List.mem_singleton.2 h2.2.2.2.symm)
    · rename_i h
      rw [ih]
      constructor
      · rintro ⟨k, h1, h2⟩; exact ⟨k, by omega, h2⟩
      · rintro ⟨k, h1, h2⟩
        rcases Nat.lt_or_ge k n with g | g
        · exact ⟨k, g, h2⟩
        · have : k = n := by omega
          subst this
          have hm : (l.getD k d0).2.2.2.2.2.2.2.2.1 ∈ hdK l o p k := Classical.byContradiction fun g => h ⟨g, h2.1, h2.2.1, h2.2.2.1⟩
          rw [h2.2.2.2] at hm
          exact ih.1 hm
theorem nodup_le {α : Type} [DecidableEq α] : ∀ (xs ys : List α), xs.Nodup → (∀ x ∈ xs, x ∈ ys) → xs.length ≤ ys.length
  | [], _, _, _ => Nat.zero_le _
  | x :: xs, ys, hn, h => by
    obtain ⟨h1, h2⟩ := List.nodup_cons.1 hn
    have := nodup_le xs (ys.erase x) h2 fun y hy => by
      have hne : y ≠ x := fun e => h1 (e ▸ hy)
      exact (List.mem_erase_of_ne hne).2 (h y (by simp [hy]))
    have hx := h x (by simp)
    rw [List.length_erase_of_mem hx] at this
    have : 0 < ys.length := List.length_pos_of_mem hx
    simp only [List.length_cons]; omega
/-- A share's numbers. -/
def vdS (S : List (Int × (Int × (Int × (List Int × (Int × (Int × (Int × (Int × (Int × (Int × Unit))))))))))) : Prop := ∀ a ∈ S, a.2.1 = 3 → 0 ≤ a.2.2.2.2.2.2.2.2.1 ∧ a.2.2.2.2.2.2.2.2.1 ≤ 11 ∧ 0 ≤ a.2.2.2.2.2.2.2.2.2.1 ∧ a.2.2.2.2.2.2.2.2.2.1 ≤ 499
theorem get_set {α : Type} {d : α} {l : List α} {i j : Nat} {x : α} (hi : i < l.length) : (l.set i x).getD j d = if i = j then x else l.getD j d := by
  rw [List.getD_eq_getElem?_getD, List.getD_eq_getElem?_getD, List.getElem?_set]
  split
  · rename_i h; subst h; simp [hi]
  · rfl
theorem tab_iff {S : List (Int × (Int × (Int × (List Int × (Int × (Int × (Int × (Int × (Int × (Int × Unit))))))))))} (hv : vdS S) {r i : Nat} (hr : r < 500) (hi : i < 12) : ∀ n, n ≤ S.length → (((tabS (S.take n)).getD r (List.replicate 12 false)).getD i false = true ↔ ∃ k, k < n ∧ (S.getD k d0).2.1 = 3 ∧ (S.getD k d0).2.2.2.2.2.2.2.2.2.1 = r ∧ (S.getD k d0).2.2.2.2.2.2.2.2.1 = i)
  | 0, _ => by
    have : (tabS (S.take 0)).getD r (List.replicate 12 false) = List.replicate 12 false := by
      show (List.replicate 500 (List.replicate 12 false)).getD r _ = _
      rw [List.getD_eq_getElem?_getD, List.getElem?_replicate]; split <;> rfl
    rw [this, rep_false]
    simp
  | n + 1, hn => by
    have ih := tab_iff hv hr hi n (by omega)
    rw [take_snoc d0 S n (by omega), tabS_snoc]
    unfold tab1
    have hl := tabS_len (S.take n)
    by_cases hk : (S.getD n d0).2.1 = 3
    · obtain ⟨v1, v2, v3, v4⟩ := hv _ (getD_mem d0 S n (by omega)) hk
      rw [if_pos hk, get_set (by omega)]
      by_cases hp : (S.getD n d0).2.2.2.2.2.2.2.2.2.1.toNat = r
      · rw [if_pos hp, hp, get_set (by rw [tabS_row (S.take n) _ (getD_mem _ _ r (by omega))]; omega)]
        by_cases hx : (S.getD n d0).2.2.2.2.2.2.2.2.1.toNat = i
        · rw [if_pos hx]
          exact ⟨fun _ => ⟨n, by omega, hk, by omega, by omega⟩, fun _ => rfl⟩
        · rw [if_neg hx, ih]
          constructor
          · rintro ⟨k, h1, h2⟩; exact ⟨k, by omega, h2⟩
          · rintro ⟨k, h1, h2, h3, h4⟩
            refine ⟨k, ?_, h2, h3, h4⟩
            rcases Nat.lt_or_ge k n with g | g
            · exact g
            · have : k = n := by omega
              subst this; omega
      · rw [if_neg hp, ih]
        constructor
        · rintro ⟨k, h1, h2⟩; exact ⟨k, by omega, h2⟩
        · rintro ⟨k, h1, h2, h3, h4⟩
          refine ⟨k, ?_, h2, h3, h4⟩
          rcases Nat.lt_or_ge k n with g | g
          · exact g
          · have : k = n := by omega
            subst this; omega
    · rw [if_neg hk, ih]
      constructor
      · rintro ⟨k, h1, h2⟩; exact ⟨k, by omega, h2⟩
      · rintro ⟨k, h1, h2, h3⟩
        refine ⟨k, ?_, h2, h3⟩
        rcases Nat.lt_or_ge k n with g | g
        · exact g
        · have : k = n := by omega
          subst this; exact absurd h2 hk
theorem cnt_range (h : List Bool) : ∀ k, k ≤ h.length → cntT (h.take k) = ((List.range k).filter fun i => h.getD i false).length
  | 0, _ => rfl
  | k + 1, hk => by
    rw [take_snoc false h k (by omega), cntT_snoc, cnt_range h k (by omega), List.range_succ, List.filter_append, List.length_append]
    by_cases g : h.getD k false = true
    · rw [if_pos g, List.filter_cons, if_pos g]; rfl
    · rw [if_neg g, List.filter_cons, if_neg g]; rfl
theorem nodup_map {α β : Type} (f : α → β) : ∀ (l : List α), l.Nodup → (∀ a ∈ l, ∀ b ∈ l, f a = f b → a = b) → (l.map f).Nodup
  | [], _, _ => List.nodup_nil
  | a :: l, hn, h => by
    obtain ⟨h1, h2⟩ := List.nodup_cons.1 hn
    refine List.nodup_cons.2 ⟨fun g => ?_, nodup_map f l h2 fun b hb c hc => h b (by simp [hb]) c (by simp [hc])⟩
    obtain ⟨b, hb, e⟩ := List.mem_map.1 g
    have := h b (by simp [hb]) a (by simp) e
    subst this; exact h1 hb
theorem cnt_hd {S : List (Int × (Int × (Int × (List Int × (Int × (Int × (Int × (Int × (Int × (Int × Unit))))))))))} {o p : Int} (hv : vdS S) (hob : ∀ a ∈ S, a.2.2.1 = o) (h0 : 0 ≤ p) (h1 : p ≤ 499) : cntT ((tabS S).getD p.toNat (List.replicate 12 false)) = (hdK S o p S.length).length := by
  have hrow : ((tabS S).getD p.toNat (List.replicate 12 false)).length = 12 := tabS_row S _ (getD_mem _ _ _ (by rw [tabS_len]; omega))
  have hc := cnt_range ((tabS S).getD p.toNat (List.replicate 12 false)) 12 (by omega)
  rw [List.take_of_length_le (by omega)] at hc
  rw [hc]
  have ht : ∀ i, i < 12 → (((tabS S).getD p.toNat (List.replicate 12 false)).getD i false = true ↔ (i : Int) ∈ hdK S o p S.length) := fun i hi => by
    have := tab_iff hv (r := p.toNat) (by omega) hi S.length (Nat.le_refl _)
    rw [List.take_length] at this
    rw [this, hdK_iff (Nat.le_refl _)]
    constructor
    · rintro ⟨k, g1, g2, g3, g4⟩; exact ⟨k, g1, g2, hob _ (getD_mem d0 S k g1), by omega, g4⟩
    · rintro ⟨k, g1, g2, _, g3, g4⟩; exact ⟨k, g1, g2, by omega, g4⟩
  have hb : ∀ x ∈ hdK S o p S.length, 0 ≤ x ∧ x ≤ 11 := fun x hx => by
    obtain ⟨k, g1, g2, _, _, g4⟩ := (hdK_iff (Nat.le_refl _)).1 hx
    have := hv _ (getD_mem d0 S k g1) g2
    omega
  refine Nat.le_antisymm ?_ ?_
  · have := nodup_le (((List.range 12).filter fun i => ((tabS S).getD p.toNat (List.replicate 12 false)).getD i false).map fun i : Nat => (i : Int)) (hdK S o p S.length) (nodup_map _ _ (List.nodup_range.filter _) fun a _ b _ h => by omega) fun x hx => by
      obtain ⟨i, g1, rfl⟩ := List.mem_map.1 hx
      obtain ⟨g2, g3⟩ := List.mem_filter.1 g1
      exact (ht i (List.mem_range.1 g2)).1 g3
    rw [List.length_map] at this
    exact this
  · have := nodup_le ((hdK S o p S.length).map Int.toNat) ((List.range 12).filter fun i => ((tabS S).getD p.toNat (List.replicate 12 false)).getD i false) (nodup_map _ _ (hdK_nd S o p S.length) fun a ha b hb' h => by have := hb a ha; have := hb b hb'; omega) fun x hx => by
      obtain ⟨i, g1, rfl⟩ := List.mem_map.1 hx
      have := hb i g1
      exact List.mem_filter.2 ⟨List.mem_range.2 (by omega), (ht _ (by omega)).2 (by rw [show ((i.toNat : Nat) : Int) = i by omega]; exact g1)⟩
    rw [List.length_map] at this
    exact this
/-- Enough shares of a period are seen. -/
def enR (S : List (Int × (Int × (Int × (List Int × (Int × (Int × (Int × (Int × (Int × (Int × Unit))))))))))) (o need : Int) : Nat → Bool
  | 0 => false
  | n + 1 => enR S o need n || (decide ((S.getD n d0).2.1 = 3) && decide (need ≤ ((hdK S o (S.getD n d0).2.2.2.2.2.2.2.2.2.1 S.length).length : Int)))
theorem enR_iff {S : List (Int × (Int × (Int × (List Int × (Int × (Int × (Int × (Int × (Int × (Int × Unit))))))))))} {o need : Int} : ∀ {n : Nat}, enR S o need n = true ↔ ∃ k, k < n ∧ (S.getD k d0).2.1 = 3 ∧ need ≤ ((hdK S o (S.getD k d0).2.2.2.2.2.2.2.2.2.1 S.length).length : Int)
  | 0 => by simp [enR]
  | n + 1 => by
    rw [enR, Bool.or_eq_true, enR_iff, Bool.and_eq_true, decide_eq_true_eq, decide_eq_true_eq]
    constructor
    · rintro (⟨k, h1, h2⟩ | h)
      · exact ⟨k, by omega, h2⟩
      · exact ⟨n, by omega, h⟩
    · rintro ⟨k, h1, h2⟩
      rcases Nat.lt_or_ge k n with g | g
      · exact .inl ⟨k, g, h2⟩
      · have : k = n := by omega
        subst this; exact .inr h2
theorem enR_enS {S : List (Int × (Int × (Int × (List Int × (Int × (Int × (Int × (Int × (Int × (Int × Unit))))))))))} {o need : Int} (hv : vdS S) (hob : ∀ a ∈ S, a.2.2.1 = o) (hn : 1 ≤ need) : enR S o need S.length = enS need (tabS S) := by
  rw [Bool.eq_iff_iff, enR_iff]
  unfold enS
  rw [List.any_eq_true]
  constructor
  · rintro ⟨k, h1, h2, h3⟩
    obtain ⟨_, _, v3, v4⟩ := hv _ (getD_mem d0 S k h1) h2
    refine ⟨(tabS S).getD (S.getD k d0).2.2.2.2.2.2.2.2.2.1.toNat (List.replicate 12 false), getD_mem _ _ _ (by rw [tabS_len]; omega), decide_eq_true ?_⟩
    rw [cnt_hd hv hob v3 v4]; exact h3
  · rintro ⟨row, h1, h2⟩
    have h2 := of_decide_eq_true h2
    obtain ⟨r, hr, e⟩ := List.mem_iff_getElem.1 h1
    have e : (tabS S).getD r (List.replicate 12 false) = row := by rw [List.getD_eq_getElem?_getD, List.getElem?_eq_getElem hr]; exact e
    rw [tabS_len] at hr
    have hc := cnt_hd (p := (r : Int)) hv hob (by omega) (by omega)
    rw [Int.toNat_natCast, e] at hc
    have hpos : 0 < (hdK S o (r : Int) S.length).length := by omega
    obtain ⟨k, g1, g2, _, g3, _⟩ := (hdK_iff (Nat.le_refl _)).1 (getD_mem 0 _ 0 hpos)
    exact ⟨k, g1, g2, by rw [g3, ← hc]; exact h2⟩
theorem sn_vd {l : List (Int × (Int × (Int × (List Int × (Int × (Int × (Int × (Int × (Int × (Int × Unit))))))))))} {o bad : Int} {cs : List (Int × (Int × Unit))} (hc : chkL l = 0) : vdS (sn bad cs (fO o l)) := fun a ha h3 => by
  have g := fmd_all (chk_fmd hc (List.mem_filter.1 (List.mem_filter.1 ha).1).1)
  omega
theorem sn_ob {l : List (Int × (Int × (Int × (List Int × (Int × (Int × (Int × (Int × (Int × (Int × Unit))))))))))} {o bad : Int} {cs : List (Int × (Int × Unit))} : ∀ a ∈ sn bad cs (fO o l), a.2.2.1 = o := fun a ha => of_decide_eq_true (List.mem_filter.1 (List.mem_filter.1 ha).1).2
theorem snO_t {bad o : Int} {cs : List (Int × (Int × Unit))} {l : List (Int × (Int × (Int × (List Int × (Int × (Int × (Int × (Int × (Int × (Int × Unit))))))))))} {k : Nat} (hk : k < l.length) (h : (l.getD k d0).2.2.1 = o) (hp : seeP bad cs (l.getD k d0)) : sn bad cs (fO o (l.take (k + 1))) = sn bad cs (fO o (l.take k)) ++ [l.getD k d0] := filO_t hk h (decide_eq_true hp)
theorem snO_f {bad o : Int} {cs : List (Int × (Int × Unit))} {l : List (Int × (Int × (Int × (List Int × (Int × (Int × (Int × (Int × (Int × (Int × Unit))))))))))} {k : Nat} (hk : k < l.length) (h : ¬ (seeP bad cs (l.getD k d0) ∧ (l.getD k d0).2.2.1 = o)) : sn bad cs (fO o (l.take (k + 1))) = sn bad cs (fO o (l.take k)) := filO_f hk fun g => h ⟨of_decide_eq_true g.2, g.1⟩
theorem sn_len (bad o : Int) (cs : List (Int × (Int × Unit))) (l : List (Int × (Int × (Int × (List Int × (Int × (Int × (Int × (Int × (Int × (Int × Unit))))))))))) : (sn bad cs (fO o l)).length ≤ l.length := Nat.le_trans (List.length_filter_le _ _) (fO_len _ _)
theorem srcK_next {S : List (Int × (Int × (Int × (List Int × (Int × (Int × (Int × (Int × (Int × (Int × Unit))))))))))} {k : Nat} (hk : k < S.length) (h : srcS (S.take k) = false) (g : ¬ (S.getD k d0).2.1 = 1) : srcS (S.take (k + 1)) = false := by rw [take_snoc d0 S k hk, srcS_snoc, h, decide_eq_false g]; rfl
theorem src_at {S : List (Int × (Int × (Int × (List Int × (Int × (Int × (Int × (Int × (Int × (Int × Unit))))))))))} {k : Nat} (hk : k < S.length) (g : (S.getD k d0).2.1 = 1) : srcS S = true := List.any_eq_true.2 ⟨_, getD_mem d0 S k hk, decide_eq_true g⟩
theorem covK {S : List (Int × (Int × (Int × (List Int × (Int × (Int × (Int × (Int × (Int × (Int × Unit))))))))))} {k : Nat} (hk : k < S.length) : covS (S.take (k + 1)) = (covS (S.take k) || decide ((S.getD k d0).2.1 = 2)) := by rw [take_snoc d0 S k hk, covS_snoc]
theorem tol_eq {l : List (Int × (Int × (Int × (List Int × (Int × (Int × (Int × (Int × (Int × (Int × Unit))))))))))} {o need bad : Int} {cs : List (Int × (Int × Unit))} (hE : tolE l o need bad cs = 0) : tolT l o need bad cs = tolB (sn bad cs (fO o l)) need := by unfold tolT; rw [decide_eq_true hE]; rfl
theorem tol_zero {l : List (Int × (Int × (Int × (List Int × (Int × (Int × (Int × (Int × (Int × (Int × Unit))))))))))} {o need bad : Int} {cs : List (Int × (Int × Unit))} (hE : tolE l o need bad cs = 0) : askE l o need 1 12 = 0 ∧ spE bad cs = 0 := by
  unfold tolE at hE
  split at hE
  · contradiction
  · rename_i h; exact ⟨Classical.not_not.1 h, hE⟩
theorem tol_one {l : List (Int × (Int × (Int × (List Int × (Int × (Int × (Int × (Int × (Int × (Int × Unit))))))))))} {o need bad : Int} {cs : List (Int × (Int × Unit))} (hE : tolE l o need bad cs = 0) {k : Nat} (hk : k < (sn bad cs (fO o l)).length) (g : ((sn bad cs (fO o l)).getD k d0).2.1 = 1) : tolT l o need bad cs = true := by
  rw [tol_eq hE]; unfold tolB; rw [src_at hk g]; rfl
theorem tol_all {l : List (Int × (Int × (Int × (List Int × (Int × (Int × (Int × (Int × (Int × (Int × Unit))))))))))} {o need bad : Int} {cs : List (Int × (Int × Unit))} (hE : tolE l o need bad cs = 0) (hs : srcS (sn bad cs (fO o l)) = false) : tolT l o need bad cs = (covS (sn bad cs (fO o l)) && enR (sn bad cs (fO o l)) o need (sn bad cs (fO o l)).length) := by
  obtain ⟨h1, h2⟩ := tol_zero hE
  obtain ⟨hc, _, hn, _⟩ := ask_ok h1
  rw [tol_eq hE]; unfold tolB; rw [hs, enR_enS (sn_vd hc) sn_ob hn]; rfl
theorem spE_ok {bad : Int} {cs : List (Int × (Int × Unit))} (h : spE bad cs = 0) : 0 ≤ bad ∧ bad ≤ 4095 ∧ cs.length ≤ 500 := by
  unfold spE at h
  split at h
  · cases h
  · split at h
    · cases h
    · omega
end Go.Proofs.Ytgljcfnplkcfhaa.S38

/- Texts of this claim: S38.Qv. -/
import Derived.Test.YtgljcfnplkcfhaaS2
set_option linter.unusedVariables false
set_option linter.unusedSimpArgs false
namespace Go.Proofs.Ytgljcfnplkcfhaa.S38
open Go

/-- A share's numbers. -/
def vdS (S : List (Int × (Int × (Int × (List Int × (Int × (Int × (Int × (Int × (Int × (Int × Unit))))))))))) : Prop := ∀ a ∈ S, a.2.1 = 3 → 0 ≤ a.2.2.2.2.2.2.2.2.1 ∧ a.2.2.2.2.2.2.2.2.1 ≤ 11 ∧ 0 ≤ a.2.2.2.2.2.2.2.2.2.1 ∧ a.2.2.2.2.2.2.2.2.2.1 ≤ 499
theorem get_set {α : Type} {d : α} {l : List α} {i j : Nat} {x : α} (hi : i < l.length) : (l.set i x).getD j d = if i = j then x else l.getD j d := by
  rw [List.getD_eq_getElem?_getD, List.getD_eq_getElem?_getD, List.getElem?_set]
  split
  · rename_i h; subst h; simp [hi]
  · rfl
theorem tab_iff {S : List (Int × (Int × (Int × (List Int × (Int × (Int × (Int × (Int × (Int × (Int × Unit))))))))))} (hv : vdS S) {r i : Nat} (hr : r < 500) (hi : i < 12) : ∀ n, n ≤ S.length → (((tabS (S.take n)).getD r (List.replicate 12 false)).getD i false = true ↔ ∃ k, k < n ∧ (S.getD k d0).2.1 = 3 ∧ (S.getD k d0).2.2.2.2.2.2.2.2.2.1 = r ∧ (S.getD k d0).2.2.2.2.2.2.2.2.1 = i)
  | 0, _ => by
    have : (tabS (S.take 0)).getD r (List.replicate 12 false) = List.replicate 12 false := by
      show (List.replicate 500 (List.replicate 12 false)).getD r _ = _
      rw [List.getD_eq_getElem?_getD, List.getElem?_replicate]; split <;> rfl
    rw [this, rep_false]
    simp
  | n + 1, hn => by
    have ih := tab_iff hv hr hi n (by omega)
    rw [take_snoc d0 S n (by omega), tabS_snoc]
    unfold tab1
    have hl := tabS_len (S.take n)
    by_cases hk : (S.getD n d0).2.1 = 3
    · obtain ⟨v1, v2, v3, v4⟩ := hv _ (getD_mem d0 S n (by omega)) hk
      rw [if_pos hk, get_set (by omega)]
      by_cases hp : (S.getD n d0).2.2.2.2.2.2.2.2.2.1.toNat = r
      · rw [if_pos hp, hp, get_set (by rw [tabS_row (S.take n) _ (getD_mem _ _ r (by omega))]; omega)]
        by_cases hx : (S.getD n d0).2.2.2.2.2.2.2.2.1.toNat = i
        · rw [if_pos hx]
          exact ⟨fun _ => ⟨n, by omega, hk, by omega, by omega⟩, fun _ => rfl⟩
        · rw [if_neg hx, ih]
          constructor
          · rintro ⟨k, h1, h2⟩; exact ⟨k, by omega, h2⟩
          · rintro ⟨k, h1, h2, h3, h4⟩
            refine ⟨k, ?_, h2, h3, h4⟩
            rcases Nat.lt_or_ge k n with g | g
            · exact g
            · have : k = n := by omega
              subst this; omega
      · rw [if_neg hp, ih]
        constructor
        · rintro ⟨k, h1, h2⟩; exact ⟨k, by omega, h2⟩
        · rintro ⟨k, h1, h2, h3, h4⟩
          refine ⟨k, ?_, h2, h3, h4⟩
          rcases Nat.lt_or_ge k n with g | g
          · exact g
          · have : k = n := by omega
            subst this; omega
    · rw [if_neg hk, ih]
      constructor
      · rintro ⟨k, h1, h2⟩; exact ⟨k, by omega, h2⟩
      · rintro ⟨k, h1, h2, h3⟩
        refine ⟨k, ?_, h2, h3⟩
        rcases Nat.lt_or_ge k n with g | g
        · exact g
        · have : k = n := by omega
          subst this; exact absurd h2 hk
end Go.Proofs.Ytgljcfnplkcfhaa.S38

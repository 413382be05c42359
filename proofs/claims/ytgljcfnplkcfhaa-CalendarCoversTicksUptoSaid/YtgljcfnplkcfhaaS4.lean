/- Texts of this claim: S29.Pg. -/
import Derived.Test.YtgljcfnplkcfhaaS3
set_option linter.unusedVariables false
set_option linter.unusedSimpArgs false
namespace Go.Proofs.Ytgljcfnplkcfhaa.S29
open Go

/-! ### a later last tick -/
theorem cnt_mono {b l x d : Int} (hd : 1 ≤ d) (h : l ≤ x) : cntL b l d ≤ cntL b x d := by
  have := Int.ediv_le_ediv (by omega : 0 < d) (by omega : l - b ≤ x - b)
  unfold cntL; omega
theorem spanT_mono {b l x d q : Int} (h : l ≤ x) : spanT b l d q ≤ spanT b x d q := by unfold spanT; omega
theorem expT_mono {b l x d q : Int} (h : l ≤ x) : expT b l d q ≤ expT b x d q := by unfold expT; omega
theorem span_same {b l x d m : Int} {hs : List Int} (hc : Cal b l d m hs) (h : l ≤ x) {q : Int} (h0 : 0 ≤ q) (h1 : q + 1 < cntL b l d) : spanT b l d q = spanT b x d q ∧ expT b l d q = expT b x d q := by
  obtain ⟨z1, z2, z3⟩ := hc.qn (q := q + 1) (by omega) h1
  rw [Int.add_mul, Int.one_mul] at z2
  unfold spanT expT
  omega
theorem exB_mono {b l x d t q : Int} (h : l ≤ x) (hx : exB b l d t q = true) : exB b x d t q = true := by
  have e := of_decide_eq_true hx
  have := expT_mono (b := b) (d := d) (q := q) h
  exact decide_eq_true ⟨e.1, by omega⟩
theorem seenC_mono {b l x d : Int} {hs : List Int} {bad : Int} {a : List Cp} {q h : Nat} (hl : l ≤ x) (hx : seenC b l d hs bad a q h = true) : seenC b x d hs bad a q h = true := by
  unfold seenC at *
  rw [Bool.and_eq_true, Bool.or_eq_true] at *
  refine ⟨hx.1, hx.2.imp_right fun g => ?_⟩
  rw [List.any_eq_true] at *
  obtain ⟨y, hy, e⟩ := g
  refine ⟨y, hy, ?_⟩
  unfold capIn at *
  rw [Bool.and_eq_true] at *
  exact ⟨e.1, exB_mono hl e.2⟩
theorem telP_mono {b l x d m : Int} {hs : List Int} {bad : Int} {a : List Cp} {q : Nat} (hl : l ≤ x) (hx : telP b l d m hs bad a q = true) : telP b x d m hs bad a q = true := by
  have e := of_decide_eq_true hx
  have := cntF_mono (f := seenC b l d hs bad a q) (g := seenC b x d hs bad a q) 12 fun i _ h => seenC_mono hl h
  exact decide_eq_true (by omega)
theorem red_eq {b l x d m : Int} {hs : List Int} (hc : Cal b l d m hs) (hx : Cal b x d m hs) (bad : Int) (a : List Cp) : redL b x d m hs bad a = redL b l d m hs bad a := by
  unfold redL; rw [hc.chk, hx.chk]
theorem mem_tel {b l d m : Int} {hs : List Int} {bad : Int} {a : List Cp} (hr : redL b l d m hs bad a = 0) {q : Nat} (hq : (q : Int) < cntL b l d) (ht : telP b l d m hs bad a q = true) : (q : Int) ∈ telL b l d m hs bad a := by
  unfold telL telG
  rw [if_pos hr]
  exact List.mem_map.2 ⟨q, List.mem_filter.2 ⟨List.mem_range.2 (by omega), ht⟩, rfl⟩
theorem tel_sub {b l x d m : Int} {hs : List Int} (hc : Cal b l d m hs) (hx : Cal b x d m hs) (hl : l ≤ x) (bad : Int) (a : List Cp) : ∀ q ∈ telL b l d m hs bad a, q ∈ telL b x d m hs bad a := by
  intro q hq
  obtain ⟨h1, h2, h3, h4⟩ := tel_mem hq
  have e : ((q.toNat : Nat) : Int) = q := by omega
  have := mem_tel (b := b) (l := x) (d := d) (m := m) (hs := hs) (bad := bad) (a := a) (by rw [red_eq hc hx]; exact h1) (q := q.toNat) (by have := cnt_mono (b := b) hc.n1 hl; omega) (telP_mono hl h4)
  rwa [e] at this

def Srt (l : List Int) : Prop := ∀ i j, i < j → j < l.length → l.getD i 0 < l.getD j 0
theorem srt_of {l : List Int} (h : l.Pairwise (· < ·)) : Srt l := by
  intro i j hij hj
  have := List.pairwise_iff_getElem.1 h i j (by omega) hj hij
  simpa [List.getD_eq_getElem?_getD, (by omega : i < l.length), hj] using this
theorem tel_pw (b l d m : Int) (hs : List Int) (bad : Int) (a : List Cp) : (telL b l d m hs bad a).Pairwise (· < ·) := by
  unfold telL
  split
  · unfold telG
    rw [List.pairwise_map]
    refine List.Pairwise.imp ?_ (List.Pairwise.filter _ (List.pairwise_lt_range))
    intro i j h
    exact Int.ofNat_lt.2 h
  · exact .nil
theorem tel_srt (b l d m : Int) (hs : List Int) (bad : Int) (a : List Cp) : Srt (telL b l d m hs bad a) := srt_of (tel_pw b l d m hs bad a)
def SubF (S T : List Int) (k i : Nat) : Prop := ∀ j, k ≤ j → j < S.length → ∃ p, i ≤ p ∧ p < T.length ∧ T.getD p 0 = S.getD j 0
theorem mem_getD {x : Int} {l : List Int} (h : x ∈ l) : ∃ p, p < l.length ∧ l.getD p 0 = x := by
  obtain ⟨p, hp, e⟩ := List.getElem_of_mem h
  exact ⟨p, hp, by simp [List.getD_eq_getElem?_getD, hp, e]⟩
theorem sub_start {S T : List Int} (h : ∀ q ∈ S, q ∈ T) : SubF S T 0 0 := fun j _ hj => by
  obtain ⟨p, h1, h2⟩ := mem_getD (h _ (getD_mem 0 S j hj))
  exact ⟨p, Nat.zero_le _, h1, h2⟩
theorem sub_next {S T : List Int} {k i : Nat} (h : SubF S T k i) : SubF S T (k + 1) i := fun j hj hl => h j (by omega) hl
theorem sub_skip {S T : List Int} {k i : Nat} (hS : Srt S) (h : SubF S T k i) (hk : k < S.length) (hlt : T.getD i 0 < S.getD k 0) : SubF S T k (i + 1) := fun j hj hl => by
  obtain ⟨p, h1, h2, h3⟩ := h j hj hl
  refine ⟨p, ?_, h2, h3⟩
  rcases Nat.lt_or_ge i p with g | g
  · exact g
  · have : i = p := by omega
    subst this
    rcases Nat.lt_or_ge k j with g2 | g2
    · have := hS k j g2 hl; omega
    · have : k = j := by omega
      subst this
      omega
theorem sub_hit {S T : List Int} {k i : Nat} (hT : Srt T) (h : SubF S T k i) (hk : k < S.length) (hge : i < T.length → ¬ T.getD i 0 < S.getD k 0) : i < T.length ∧ T.getD i 0 = S.getD k 0 := by
  obtain ⟨p, h1, h2, h3⟩ := h k (Nat.le_refl _) hk
  refine ⟨by omega, ?_⟩
  rcases Nat.lt_or_ge i p with g | g
  · have := hT i p g h2; have := hge (by omega); omega
  · have : i = p := by omega
    subst this; exact h3
theorem ext_ok {b l d m x : Int} {hs : List Int} (hc : Cal b l d m hs) (h : extE b l d m hs x = 0) : l ≤ x ∧ Cal b x d m hs := by
  unfold extE at h
  rw [if_pos hc.chk] at h
  split at h
  · omega
  · exact ⟨by omega, chk0 h⟩
theorem ext_four {b l d m x : Int} {hs : List Int} (hE : extE b l d m hs x = (if x ≤ l then 4 else chkL b x d m hs)) : x ≤ l ↔ extE b l d m hs x = 4 := by
  rw [hE]
  split
  · simp_all
  · constructor
    · intro h; omega
    · intro h
      unfold chkL at h
      repeat' split at h
      all_goals omega
end Go.Proofs.Ytgljcfnplkcfhaa.S29

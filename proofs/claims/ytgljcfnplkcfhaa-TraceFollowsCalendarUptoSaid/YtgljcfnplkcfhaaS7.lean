/- Texts of this claim: S38.Cb, S38.L6, S38.Cd0. -/
import Derived.Test.YtgljcfnplkcfhaaS6
import Derived.Test.YtgljcfnplkcfhaaS4
import Derived.Test.YtgljcfnplkcfhaaRows
import Derived.WalkKit
import Derived.ProofKit
import Derived.OpenShut
import Derived.Deep.DeepHandedRow
import Derived.Lib.LaidTab
import Derived.Test.YtgljcfnplkcfhaaVc10
import Derived.Test.YtgljcfnplkcfhaaS0
set_option linter.unusedVariables false
set_option linter.unusedSimpArgs false
namespace Go.Proofs.Ytgljcfnplkcfhaa.S38c
open Go Go.Proofs.Ytgljcfnplkcfhaa.S38

/-- The share of a number. -/
def shA (b l d : Int) (hs : List Int) (j : Nat) : (Int × (Int × (Int × (List Int × (Int × (Int × (Int × (Int × (Int × (Int × Unit)))))))))) :=
  (2 + (j : Int), (3, (3, (if hs.length ≤ j then [2 + (j : Int) - (hs.length : Int)] else [], (hs.getD (j % hs.length) 0, (0, (expF b d ((j / hs.length : Nat) : Int), (min 1000001 (expT b l d ((j / hs.length : Nat) : Int) + 1), (hs.getD (j % hs.length) 0, (((j / hs.length : Nat) : Int), ()))))))))))
def cov0 (y z : Int) : (Int × (Int × (Int × (List Int × (Int × (Int × (Int × (Int × (Int × (Int × Unit)))))))))) := (1, (2, (3, ([], (y, (-1, (z, (1000001, (-1, (0, ()))))))))))
def ldg (b l d : Int) (hs : List Int) (y z : Int) (n : Nat) : List (Int × (Int × (Int × (List Int × (Int × (Int × (Int × (Int × (Int × (Int × Unit)))))))))) := cov0 y z :: (List.range n).map (shA b l d hs)
section
variable {b l d m y z bad : Int} {hs : List Int} {cs : List (Int × (Int × Unit))} {n : Nat}
theorem ldg_succ : ldg b l d hs y z (n + 1) = ldg b l d hs y z n ++ [shA b l d hs n] := by
  unfold ldg; rw [List.range_succ, List.map_append]; rfl
theorem ldg_len : (ldg b l d hs y z n).length = n + 1 := by simp [ldg]
theorem ldg_zero : (ldg b l d hs y z n).getD 0 d0 = cov0 y z := rfl
theorem ldg_get {i : Nat} (hi : i < n) : (ldg b l d hs y z n).getD (i + 1) d0 = shA b l d hs i := by
  unfold ldg
  rw [List.getD_cons_succ, List.getD_eq_getElem?_getD, List.getElem?_map, List.getElem?_range hi]; rfl
theorem ldg_id {i : Nat} (hi : i ≤ n) : ((ldg b l d hs y z n).getD i d0).1 = (i : Int) + 1 := by
  cases i with
  | zero => rfl
  | succ i => rw [ldg_get (by omega)]; show 2 + (i : Int) = _; omega
theorem ldg_mem {a : (Int × (Int × (Int × (List Int × (Int × (Int × (Int × (Int × (Int × (Int × Unit))))))))))} : a ∈ ldg b l d hs y z n ↔ a = cov0 y z ∨ ∃ j, j < n ∧ a = shA b l d hs j := by
  unfold ldg
  rw [List.mem_cons, List.mem_map]
  constructor
  · rintro (h | ⟨j, h1, h2⟩)
    · exact .inl h
    · exact .inr ⟨j, List.mem_range.1 h1, h2.symm⟩
  · rintro (h | ⟨j, h1, h2⟩)
    · exact .inl h
    · exact .inr ⟨j, List.mem_range.2 h1, h2.symm⟩
theorem sh_q (hc : Cal b l d m hs) {N : Nat} (hN : cntL b l d = N) {j : Nat} (hj : j < N * hs.length) : j / hs.length < N ∧ j % hs.length < hs.length := by
  have hp : 0 < hs.length := by have := hc.m1; have := hc.m2; omega
  exact ⟨Nat.div_lt_of_lt_mul (by rw [Nat.mul_comm]; exact hj), Nat.mod_lt _ hp⟩
theorem exp_bd (hc : Cal b l d m hs) {q : Int} (h0 : 0 ≤ q) (h1 : q < cntL b l d) : 0 ≤ expF b d q ∧ expF b d q ≤ 1000000 ∧ expF b d q < min 1000001 (expT b l d q + 1) := by
  obtain ⟨g1, g2, g3⟩ := hc.qn h0 h1
  obtain ⟨g4, g5⟩ := hc.qn1 h0 h1
  have := hc.b0; have := hc.bl; have := hc.l1; have := hc.n1
  unfold expF expT
  omega
theorem exp_nx (hc : Cal b l d m hs) {q : Int} (h0 : 0 ≤ q) (h1 : q + 1 < cntL b l d) : expF b d q ≤ expF b d (q + 1) ∧ expF b d (q + 1) < min 1000001 (expT b l d q + 1) := by
  refine ⟨expF_mono hc.n1 (by omega), ?_⟩
  obtain ⟨g1, g2, g3⟩ := hc.qn (q := q + 1) (by omega) h1
  obtain ⟨g4, g5, g6⟩ := hc.qn (q := q) h0 (by omega)
  have := hc.b0; have := hc.bl; have := hc.l1; have := hc.n1
  rw [Int.add_mul, Int.one_mul] at g1 g2 g3
  unfold expF expT
  rw [show max 0 (q + 1 - 1) = q by omega]
  omega
theorem sh_fmd (hc : Cal b l d m hs) {N : Nat} (hN : cntL b l d = N) (h12 : N ≤ 12) {j : Nat} (hj : j < N * hs.length) : fmdA (shA b l d hs j) := by
  obtain ⟨h1, h2⟩ := sh_q hc hN hj
  obtain ⟨g1, g2, g3⟩ := exp_bd hc (q := ((j / hs.length : Nat) : Int)) (Int.natCast_nonneg _) (by rw [hN]; exact Int.ofNat_lt.2 h1)
  obtain ⟨k1, k2⟩ := hsF_at hs (-1) _ hc.ho h2
  have hb : j < 12 * 12 := Nat.lt_of_lt_of_le hj (Nat.mul_le_mul h12 hc.h12)
  have hu : upA (incB (shA b l d hs j).2.2.2.1) (shA b l d hs j).2.2.2.1.length = true := by
    show upA (incB (if hs.length ≤ j then [2 + (j : Int) - (hs.length : Int)] else [])) (if hs.length ≤ j then [2 + (j : Int) - (hs.length : Int)] else []).length = true
    split
    · simp [upA, incB]
    · rfl
  unfold fmdA fmd
  refine ⟨hu, ?_⟩
  simp only [shA, true_and, and_true]
  generalize hs.getD (j % hs.length) 0 = x at k1 k2 ⊢
  generalize expF b d ((j / hs.length : Nat) : Int) = e at g1 g2 g3 ⊢
  generalize expT b l d ((j / hs.length : Nat) : Int) = f at g3 ⊢
  generalize j / hs.length = q at h1 ⊢
  omega
theorem find_none {L : List (Int × (Int × (Int × (List Int × (Int × (Int × (Int × (Int × (Int × (Int × Unit))))))))))} {x : Int} {k : Nat} (hk : k < L.length) (h : (L.getD k d0).1 = x) : 0 ≤ findL L x := by
  refine Classical.byContradiction fun g => ?_
  have := ixP_none.1 (show ixP (fun a : (Int × (Int × (Int × (List Int × (Int × (Int × (Int × (Int × (Int × (Int × Unit)))))))))) => decide (a.1 = x)) L 0 < 0 by unfold findL at g; omega) _ (getD_mem d0 L k hk)
  rw [h] at this
  simp at this
theorem ldg_find {x : Nat} (h : x ≤ n) : findL (ldg b l d hs y z n) ((x : Int) + 1) = x := by
  have h0 := find_none (L := ldg b l d hs y z n) (x := (x : Int) + 1) (k := x) (by rw [ldg_len]; omega) (ldg_id h)
  have h1 := findL_lt _ _ h0
  have h2 := find_id h0
  rw [ldg_len] at h1
  rw [ldg_id (by omega)] at h2
  omega
theorem getD_take {α : Type} (e : α) {L : List α} {n k : Nat} (hk : k < n) : (L.take n).getD k e = L.getD k e := by
  rw [List.getD_eq_getElem?_getD, List.getD_eq_getElem?_getD, List.getElem?_take, if_pos hk]
theorem ldg_chk (hc : Cal b l d m hs) {N : Nat} (hN : cntL b l d = N) (h12 : N ≤ 12) (hy : 0 ≤ y ∧ y ≤ 11) (hz : 0 ≤ z ∧ z ≤ 1000000) (hn : n ≤ N * hs.length) : S38.chkL (ldg b l d hs y z n) = 0 := by
  have hH : 0 < hs.length := by have := hc.m1; have := hc.m2; omega
  have hb : N * hs.length ≤ 12 * 12 := Nat.mul_le_mul h12 hc.h12
  rw [chk_zero, ldg_len]
  refine ⟨by omega, fun k hk => oneE_zero.2 ?_⟩
  cases k with
  | zero =>
    rw [ldg_zero]
    refine ⟨?_, fun g => by omega, fun i (hi : i ∈ ([] : List Int)) => (by cases hi), fun i (hi : i ∈ ([] : List Int)) => (by cases hi)⟩
    unfold fmdA fmd
    refine ⟨rfl, ?_⟩
    simp only [cov0, true_and, and_true]
    omega
  | succ i =>
    have hi : i < n := by omega
    rw [ldg_get hi]
    have hof : ∀ x ∈ (shA b l d hs i).2.2.2.1, hs.length ≤ i ∧ x = ((i - hs.length + 1 : Nat) : Int) + 1 := fun x hx => by
      have hx : x ∈ (if hs.length ≤ i then [2 + (i : Int) - (hs.length : Int)] else []) := hx
      split at hx
      · rename_i g
        rw [List.mem_singleton.1 hx]
        exact ⟨g, by omega⟩
      · cases hx
    refine ⟨sh_fmd hc hN h12 (by omega), ?_, ?_, ?_⟩
    · rintro ⟨_, g⟩
      rw [ldg_id (by omega)] at g
      have g : 2 + (i : Int) ≤ ((i + 1 - 1 : Nat) : Int) + 1 := g
      omega
    · intro x hx g
      obtain ⟨g1, g2⟩ := hof x hx
      have := find_none (L := (ldg b l d hs y z n).take (i + 1)) (x := x) (k := i - hs.length + 1) (by rw [List.length_take, ldg_len]; omega) (by rw [getD_take _ (by omega), ldg_id (by omega), g2])
      omega
    · intro x hx
      obtain ⟨g1, g2⟩ := hof x hx
      rw [g2, ldg_find (by omega), Int.toNat_natCast, ldg_get (by omega)]
      obtain ⟨r, rfl⟩ : ∃ r, i = hs.length + r := ⟨i - hs.length, by omega⟩
      rw [Nat.add_sub_cancel_left]
      have e1 : (hs.length + r) / hs.length = r / hs.length + 1 := Nat.add_div_left r hH
      have hq := (sh_q hc hN (j := hs.length + r) (by omega)).1
      rw [e1] at hq
      obtain ⟨t1, t2⟩ := exp_nx hc (q := ((r / hs.length : Nat) : Int)) (Int.natCast_nonneg _) (by rw [hN]; exact Int.ofNat_lt.2 hq)
      unfold madA mad thr
      simp only [shA, e1]
      rw [show (((r / hs.length + 1 : Nat)) : Int) = ((r / hs.length : Nat) : Int) + 1 by omega]
      refine ⟨⟨trivial, ?_⟩, t1, t2⟩
      rw [if_neg (by decide), if_pos trivial]
      refine ⟨trivial, by omega, by omega⟩
theorem sp_red (hc : Cal b l d m hs) : redL b l d m hs bad cs = spE bad cs := by
  unfold redL spE capL
  rw [if_pos hc.chk]
  by_cases h1 : 0 ≤ bad ∧ bad ≤ 4095
  · rw [if_pos h1, if_neg (show ¬ ¬ (0 ≤ bad ∧ bad ≤ 4095) from fun g => g h1)]
    by_cases h2 : 500 < cs.length
    · rw [if_pos h2, if_pos h2]
    · rw [if_neg h2, if_neg h2]
      by_cases h3 : ∃ c ∈ cs, ¬ (0 ≤ c.1 ∧ c.1 ≤ 11) ∨ ¬ (0 ≤ c.2.1 ∧ c.2.1 ≤ 1000000)
      · rw [if_pos h3, if_neg]
        obtain ⟨c, hc1, hc2⟩ := h3
        intro g
        have := capB_ok (List.all_eq_true.1 g c hc1)
        omega
      · rw [if_neg h3, if_pos]
        refine List.all_eq_true.2 fun c hc1 => capB_yes ?_
        refine Classical.byContradiction fun g => h3 ⟨c, hc1, ?_⟩
        omega
  · rw [if_neg h1, if_pos h1]
theorem hasL_le (L : List (Int × (Int × (Int × (List Int × (Int × (Int × (Int × (Int × (Int × (Int × Unit))))))))))) (bad : Int) (cs : List (Int × (Int × Unit))) : (hasL L bad cs).length ≤ L.length := by
  unfold hasL
  split
  · unfold idsF
    rw [List.length_map]
    exact List.length_filter_le _ _
  · exact Nat.zero_le _
theorem cal_ask (hc : Cal b l d m hs) (hk : S38.chkL (ldg b l d hs y z n) = 0) : S38.askE (ldg b l d hs y z n) 3 m 1 12 = 0 := by
  have := hc.m1; have := hc.m2; have := hc.h12
  unfold S38.askE
  rw [if_neg (fun g => g hk), if_neg (by omega)]
theorem cal_tolE (hc : Cal b l d m hs) (hk : S38.chkL (ldg b l d hs y z n) = 0) : tolE (ldg b l d hs y z n) 3 m bad cs = spE bad cs := by
  unfold tolE; rw [if_neg (fun g => g (cal_ask hc hk))]
theorem cal_hasE (hk : S38.chkL (ldg b l d hs y z n) = 0) : hasE (ldg b l d hs y z n) bad cs = spE bad cs := by
  unfold hasE; rw [if_neg (fun g => g hk)]
theorem cal_has (hk : S38.chkL (ldg b l d hs y z n) = 0) (hs0 : spE bad cs = 0) : 1 ∈ hasL (ldg b l d hs y z n) bad cs ↔ seeP bad cs (cov0 y z) := by
  unfold hasL
  rw [if_pos ((cal_hasE hk).trans hs0)]
  unfold idsF
  rw [List.mem_map]
  constructor
  · rintro ⟨a, ha, e⟩
    obtain ⟨h1, h2⟩ := List.mem_filter.1 ha
    rcases ldg_mem.1 h1 with rfl | ⟨j, _, rfl⟩
    · exact of_decide_eq_true h2
    · have e : 2 + (j : Int) = 1 := e
      omega
  · intro h
    exact ⟨_, List.mem_filter.2 ⟨ldg_mem.2 (.inl rfl), decide_eq_true h⟩, rfl⟩
theorem fO_all : fO 3 (ldg b l d hs y z n) = ldg b l d hs y z n := by
  unfold fO
  refine List.filter_eq_self.2 fun a ha => decide_eq_true ?_
  rcases ldg_mem.1 ha with rfl | ⟨j, _, rfl⟩ <;> rfl
theorem see_sh (hc : Cal b l d m hs) {N : Nat} (hN : cntL b l d = N) (hs0 : spE bad cs = 0) {j : Nat} (hj : j < N * hs.length) : seeP bad cs (shA b l d hs j) ↔ (bitB bad (hs.getD (j % hs.length) 0).toNat = true ∨ cs.any (capIn b l d (j / hs.length) (hs.getD (j % hs.length) 0).toNat) = true) := by
  obtain ⟨h1, h2⟩ := sh_q hc hN hj
  obtain ⟨g1, g2, g3⟩ := exp_bd hc (q := ((j / hs.length : Nat) : Int)) (Int.natCast_nonneg _) (by rw [hN]; exact Int.ofNat_lt.2 h1)
  obtain ⟨k1, k2⟩ := hsF_at hs (-1) _ hc.ho h2
  have hcs : ∀ c ∈ cs, c.2.1 ≤ 1000000 := fun c hc1 => by
    unfold spE at hs0
    split at hs0
    · cases hs0
    · split at hs0
      · cases hs0
      · split at hs0
        · cases hs0
        · rename_i q
          refine Classical.byContradiction fun g => q ⟨c, hc1, ?_⟩
          omega
  unfold seeP
  simp only [shA]
  generalize hs.getD (j % hs.length) 0 = x at k1 k2 ⊢
  constructor
  · rintro (⟨h, _⟩ | ⟨c, c1, c2, c3, c4⟩)
    · exact .inl (decide_eq_true h)
    · refine .inr (List.any_eq_true.2 ⟨c, c1, ?_⟩)
      unfold capIn exB
      rw [Bool.and_eq_true, decide_eq_true_eq, decide_eq_true_eq]
      exact ⟨by omega, c3, by omega⟩
  · rintro (h | h)
    · exact .inl ⟨of_decide_eq_true h, g3⟩
    · obtain ⟨c, c1, c2⟩ := List.any_eq_true.1 h
      unfold capIn exB at c2
      rw [Bool.and_eq_true, decide_eq_true_eq, decide_eq_true_eq] at c2
      have := hcs c c1
      exact .inr ⟨c, c1, by omega, c2.2.1, by omega⟩
theorem cal_vd (hc : Cal b l d m hs) {N : Nat} (hN : cntL b l d = N) (h12 : N ≤ 12) (hn : n ≤ N * hs.length) : vdS (sn bad cs (ldg b l d hs y z n)) := fun a ha h3 => by
  rcases ldg_mem.1 (List.mem_filter.1 ha).1 with rfl | ⟨j, hj, rfl⟩
  · cases h3
  · obtain ⟨h1, h2⟩ := sh_q hc hN (j := j) (by omega)
    obtain ⟨k1, k2⟩ := hsF_at hs (-1) _ hc.ho h2
    simp only [shA]
    generalize hs.getD (j % hs.length) 0 = x at k1 k2 ⊢
    generalize j / hs.length = q at h1 ⊢
    omega
theorem cal_tab (hc : Cal b l d m hs) {N : Nat} (hN : cntL b l d = N) (h12 : N ≤ 12) (hs0 : spE bad cs = 0) {r i : Nat} (hr : r < 500) (hi : i < 12) :
    ((tabS (sn bad cs (ldg b l d hs y z (N * hs.length)))).getD r (List.replicate 12 false)).getD i false = true ↔ r < N ∧ seenC b l d hs bad cs r i = true := by
  have h := tab_iff (cal_vd (bad := bad) (cs := cs) (y := y) (z := z) hc hN h12 (Nat.le_refl (N * hs.length))) hr hi _ (Nat.le_refl _)
  rw [List.take_length] at h
  rw [h]
  have hH : 0 < hs.length := by have := hc.m1; have := hc.m2; omega
  unfold seenC
  rw [Bool.and_eq_true, Bool.or_eq_true]
  constructor
  · rintro ⟨k, h1, h2, h3, h4⟩
    have hm := getD_mem d0 _ k h1
    obtain ⟨m1, m2⟩ := List.mem_filter.1 hm
    generalize (sn bad cs (ldg b l d hs y z (N * hs.length))).getD k d0 = a at h2 h3 h4 m1 m2
    rcases ldg_mem.1 m1 with rfl | ⟨j, hj, rfl⟩
    · cases h2
    · obtain ⟨q1, q2⟩ := sh_q hc hN hj
      have h3 : ((j / hs.length : Nat) : Int) = r := h3
      have h4 : hs.getD (j % hs.length) 0 = i := h4
      have hrr : j / hs.length = r := by omega
      have hsee := (see_sh hc hN hs0 hj).1 (of_decide_eq_true m2)
      rw [hrr, h4, Int.toNat_natCast] at hsee
      refine ⟨by omega, ?_, hsee⟩
      rw [List.contains_iff_mem, ← h4]
      exact getD_mem 0 _ _ q2
  · rintro ⟨h1, h2, h3⟩
    obtain ⟨k, hk, e⟩ := List.mem_iff_getElem.1 (List.contains_iff_mem.1 h2)
    have e : hs.getD k 0 = i := by rw [List.getD_eq_getElem?_getD, List.getElem?_eq_getElem hk]; exact e
    have d1 : (r * hs.length + k) / hs.length = r := by rw [Nat.mul_comm, Nat.mul_add_div hH, Nat.div_eq_of_lt hk, Nat.add_zero]
    have d2 : (r * hs.length + k) % hs.length = k := by rw [Nat.mul_comm, Nat.mul_add_mod, Nat.mod_eq_of_lt hk]
    have hj : r * hs.length + k < N * hs.length := by
      have : (r + 1) * hs.length ≤ N * hs.length := Nat.mul_le_mul_right _ h1
      rw [Nat.succ_mul] at this
      omega
    have hsee := (see_sh hc hN hs0 hj).2 (by rw [d1, d2, e, Int.toNat_natCast]; exact h3)
    obtain ⟨k2, hk2, e2⟩ := List.mem_iff_getElem.1 (List.mem_filter.2 ⟨ldg_mem.2 (.inr ⟨_, hj, rfl⟩), decide_eq_true hsee⟩ : shA b l d hs (r * hs.length + k) ∈ sn bad cs (ldg b l d hs y z (N * hs.length)))
    refine ⟨k2, hk2, ?_⟩
    have e3 : (sn bad cs (ldg b l d hs y z (N * hs.length))).getD k2 d0 = shA b l d hs (r * hs.length + k) := by rw [List.getD_eq_getElem?_getD, List.getElem?_eq_getElem (show k2 < (sn bad cs (ldg b l d hs y z (N * hs.length))).length from hk2)]; exact e2
    rw [e3]
    refine ⟨rfl, ?_, ?_⟩
    · show (((r * hs.length + k) / hs.length : Nat) : Int) = r
      rw [d1]
    · show hs.getD ((r * hs.length + k) % hs.length) 0 = i
      rw [d2, e]
theorem cntT_F (h : List Bool) : ∀ k, k ≤ h.length → cntT (h.take k) = cntF (fun i => h.getD i false) k
  | 0, _ => rfl
  | k + 1, hk => by
    rw [take_snoc false h k (by omega), cntT_snoc, cntT_F h k (by omega), cntF]
theorem cntF_false : ∀ k, cntF (fun _ => false) k = 0
  | 0 => rfl
  | k + 1 => by rw [cntF, cntF_false k]; rfl
theorem cal_row (hc : Cal b l d m hs) {N : Nat} (hN : cntL b l d = N) (h12 : N ≤ 12) (hs0 : spE bad cs = 0) {r : Nat} (hr : r < 500) :
    cntT ((tabS (sn bad cs (ldg b l d hs y z (N * hs.length)))).getD r (List.replicate 12 false)) = if r < N then cntF (seenC b l d hs bad cs r) 12 else 0 := by
  have hl : ((tabS (sn bad cs (ldg b l d hs y z (N * hs.length)))).getD r (List.replicate 12 false)).length = 12 := tabS_row _ _ (getD_mem _ _ _ (by rw [tabS_len]; exact hr))
  have h := cntT_F ((tabS (sn bad cs (ldg b l d hs y z (N * hs.length)))).getD r (List.replicate 12 false)) 12 (by omega)
  rw [List.take_of_length_le (by omega)] at h
  rw [h]
  split
  · rename_i g
    refine cntF_congr fun i hi => Bool.eq_iff_iff.2 ?_
    rw [cal_tab hc hN h12 hs0 hr hi]
    exact ⟨fun q => q.2, fun q => ⟨g, q⟩⟩
  · rename_i g
    rw [← cntF_false 12]
    refine cntF_congr fun i hi => Bool.eq_iff_iff.2 ?_
    rw [cal_tab hc hN h12 hs0 hr hi]
    exact ⟨fun q => absurd q.1 g, fun q => Bool.noConfusion q⟩
theorem cal_en (hc : Cal b l d m hs) {N : Nat} (hN : cntL b l d = N) (h12 : N ≤ 12) (hs0 : spE bad cs = 0) : enS m (tabS (sn bad cs (ldg b l d hs y z (N * hs.length)))) = true ↔ 0 < ((telL b l d m hs bad cs).length : Int) := by
  have hm := hc.m1
  have htl : telL b l d m hs bad cs = telG b l d m hs bad cs N := by
    unfold telL
    rw [if_pos ((sp_red hc).trans hs0), hN, Int.toNat_natCast]
  rw [htl]
  unfold enS telG
  rw [List.any_eq_true, List.length_map]
  constructor
  · rintro ⟨row, h1, h2⟩
    obtain ⟨r, hr, e⟩ := List.mem_iff_getElem.1 h1
    have e : (tabS (sn bad cs (ldg b l d hs y z (N * hs.length)))).getD r (List.replicate 12 false) = row := by rw [List.getD_eq_getElem?_getD, List.getElem?_eq_getElem hr]; exact e
    rw [tabS_len] at hr
    have h2 := of_decide_eq_true h2
    rw [← e, cal_row hc hN h12 hs0 hr] at h2
    split at h2
    · rename_i g
      have := List.length_pos_of_mem (List.mem_filter.2 ⟨List.mem_range.2 g, decide_eq_true h2⟩ : r ∈ (List.range N).filter (telP b l d m hs bad cs))
      omega
    · omega
  · intro h
    have hp : 0 < ((List.range N).filter (telP b l d m hs bad cs)).length := by omega
    obtain ⟨h1, h2⟩ := List.mem_filter.1 (getD_mem 0 _ 0 hp)
    generalize ((List.range N).filter (telP b l d m hs bad cs)).getD 0 0 = r at h1 h2
    have h1 := List.mem_range.1 h1
    refine ⟨(tabS (sn bad cs (ldg b l d hs y z (N * hs.length)))).getD r (List.replicate 12 false), getD_mem _ _ _ (by rw [tabS_len]; omega), decide_eq_true ?_⟩
    rw [cal_row hc hN h12 hs0 (by omega), if_pos h1]
    exact of_decide_eq_true h2
theorem cal_told (hc : Cal b l d m hs) {N : Nat} (hN : cntL b l d = N) (h12 : N ≤ 12) (hk : S38.chkL (ldg b l d hs y z (N * hs.length)) = 0) (hs0 : spE bad cs = 0) :
    (tolT (ldg b l d hs y z (N * hs.length)) 3 m bad cs = true) ↔ (1 ∈ hasL (ldg b l d hs y z (N * hs.length)) bad cs ∧ 0 < ((telL b l d m hs bad cs).length : Int)) := by
  have hE : tolE (ldg b l d hs y z (N * hs.length)) 3 m bad cs = 0 := (cal_tolE hc hk).trans hs0
  unfold tolT tolB
  rw [decide_eq_true hE, fO_all, Bool.true_and]
  have hsrc : srcS (sn bad cs (ldg b l d hs y z (N * hs.length))) = false := by
    cases e : srcS (sn bad cs (ldg b l d hs y z (N * hs.length))) with
    | false => rfl
    | true =>
      obtain ⟨a, ha, g⟩ := List.any_eq_true.1 e
      have g := of_decide_eq_true g
      rcases ldg_mem.1 (List.mem_filter.1 ha).1 with rfl | ⟨j, _, rfl⟩ <;> cases g
  rw [hsrc, Bool.false_or, Bool.and_eq_true, cal_en hc hN h12 hs0, cal_has hk hs0]
  have hcv : covS (sn bad cs (ldg b l d hs y z (N * hs.length))) = true ↔ seeP bad cs (cov0 y z) := by
    unfold covS
    rw [List.any_eq_true]
    constructor
    · rintro ⟨a, ha, g⟩
      obtain ⟨h1, h2⟩ := List.mem_filter.1 ha
      have g := of_decide_eq_true g
      rcases ldg_mem.1 h1 with rfl | ⟨j, _, rfl⟩
      · exact of_decide_eq_true h2
      · cases g
    · intro h
      exact ⟨_, List.mem_filter.2 ⟨ldg_mem.2 (.inl rfl), decide_eq_true h⟩, rfl⟩
  rw [hcv]
theorem tm_ok (x : Int) : -11 ≤ Int.tmod x 12 ∧ Int.tmod x 12 ≤ 11 := by
  rcases Int.lt_or_le x 0 with h | h
  · have e1 : x.tmod 12 = -((-x) % 12) := by rw [Go.tmod_eq_if, if_neg (by omega)]
    omega
  · have e1 := Int.tmod_eq_emod_of_nonneg (b := 12) h
    omega
theorem tm_ok2 (x : Int) : 0 ≤ Int.tmod (Int.tmod x 12 + 12) 12 ∧ Int.tmod (Int.tmod x 12 + 12) 12 ≤ 11 := by
  obtain ⟨h1, h2⟩ := tm_ok x
  have e1 := Int.tmod_eq_emod_of_nonneg (a := Int.tmod x 12 + 12) (b := 12) (by omega)
  omega
theorem sh_at {q k : Nat} (hk : k < hs.length) : shA b l d hs (q * hs.length + k) = (((2 + ((q : Int) * (hs.length : Int))) + (k : Int)), (3, (3, (if 0 < (q : Int) then [((2 + ((q : Int) * (hs.length : Int))) + (k : Int)) - (hs.length : Int)] else [], (hs.getD k 0, (0, (expF b d q, (min 1000001 (expT b l d q + 1), (hs.getD k 0, ((q : Int), ())))))))))) := by
  have hH : 0 < hs.length := by omega
  have d1 : (q * hs.length + k) / hs.length = q := by rw [Nat.mul_comm, Nat.mul_add_div hH, Nat.div_eq_of_lt hk, Nat.add_zero]
  have d2 : (q * hs.length + k) % hs.length = k := by rw [Nat.mul_comm, Nat.mul_add_mod, Nat.mod_eq_of_lt hk]
  have e : ((q * hs.length + k : Nat) : Int) = (q : Int) * (hs.length : Int) + (k : Int) := by rw [Int.natCast_add, Int.natCast_mul]
  have hq : hs.length ≤ q * hs.length + k ↔ 0 < (q : Int) := by
    cases q with
    | zero => rw [Nat.zero_mul]; omega
    | succ q => rw [Nat.succ_mul]; omega
  unfold shA
  rw [d1, d2, e]
  simp only [hq]
  rw [show (2 : Int) + ((q : Int) * (hs.length : Int) + (k : Int)) = 2 + (q : Int) * (hs.length : Int) + (k : Int) by omega]
theorem add_next (hc : Cal b l d m hs) {N : Nat} (hN : cntL b l d = N) (h12 : N ≤ 12) (hy : 0 ≤ y ∧ y ≤ 11) (hz : 0 ≤ z ∧ z ≤ 1000000) (hn : n < N * hs.length) : addE (ldg b l d hs y z n) (shA b l d hs n) = 0 ∧ addL (ldg b l d hs y z n) (shA b l d hs n) = ldg b l d hs y z (n + 1) := by
  have h1 := ldg_chk (y := y) (z := z) hc hN h12 hy hz (n := n) (by omega)
  have h2 := ldg_chk (y := y) (z := z) hc hN h12 hy hz (n := n + 1) (by omega)
  have hE : addE (ldg b l d hs y z n) (shA b l d hs n) = 0 := by
    unfold addE
    rw [if_neg (fun g => g h1), ← ldg_succ]; exact h2
  exact ⟨hE, by rw [add_yes hE, ldg_succ]⟩
theorem add_first (hc : Cal b l d m hs) {N : Nat} (hN : cntL b l d = N) (h12 : N ≤ 12) (hy : 0 ≤ y ∧ y ≤ 11) (hz : 0 ≤ z ∧ z ≤ 1000000) : addE [] (cov0 y z) = 0 ∧ addL [] (cov0 y z) = ldg b l d hs y z 0 := by
  have h2 := ldg_chk (y := y) (z := z) hc hN h12 hy hz (n := 0) (Nat.zero_le _)
  have hE : addE [] (cov0 y z) = 0 := by
    unfold addE
    rw [if_neg (fun g => g rfl)]; exact h2
  exact ⟨hE, by rw [add_yes hE]; rfl⟩
theorem ldg_of : ∀ a ∈ ldg b l d hs y z n, a.2.2.2.1.length ≤ 1048576 := fun a ha => by
  rcases ldg_mem.1 ha with rfl | ⟨j, _, rfl⟩
  · exact Nat.zero_le _
  · show (if hs.length ≤ j then [2 + (j : Int) - (hs.length : Int)] else []).length ≤ 1048576
    split <;> simp
end
end Go.Proofs.Ytgljcfnplkcfhaa.S38c

namespace Go.Proofs.Ytgljcfnplkcfhaa.S38c
open Go Go.Proofs.Ytgljcfnplkcfhaa.Vc Go.Proofs
set_option maxRecDepth 100000
set_option linter.unusedVariables false
open Go.Proofs.Ytgljcfnplkcfhaa.S38
noncomputable def sLCal : List V → Option (Prop × V × List Blk)
  | [.agg [.int .i64 b, .int .i64 l, .int .i64 d, .int .i64 m, .sl false (.int .i64) hs], .agg [.int .i64 bad, .sl false (.cons (.int .i64) (.cons (.int .i64) .nil)) cs], .dat false (.arr 2 (.int .i64)) nu] => some (hs.length ≤ 1048576 ∧ cs.length ≤ 1048576 ∧ nu.length = 2, .b True, [])
  | _ => none
set_option maxHeartbeats 8000000 in
theorem bLCal (b : Int) (l : Int) (d : Int) (m : Int) (hs : List Int) (bad : Int) (cs : List (Int × (Int × Unit))) (nu : List Int) (hp0 : hs.length ≤ 1048576) (hp1 : cs.length ≤ 1048576) (hp2 : nu.length = 2) : bodyP (En CRFew tys [] QAt [46, 1000002, 1000004]) Try.f15 [.k] [.agg [.int .i64 b, .int .i64 l, .int .i64 d, .int .i64 m, .sl false (.int .i64) hs], .agg [.int .i64 bad, .sl false (.cons (.int .i64) (.cons (.int .i64) .nil)) cs], .dat false (.arr 2 (.int .i64)) nu] (.b True) [] := by
 refine ⟨⟨rfl, by first | assumption | rfl | simp⟩, rfl, rfl, rfl, rfl, by show hs.length ≤ 2000000; first | omega | assumption, fun h0 => ?_, fun h0 => ?_⟩
 ·replace h0 : ¬ ((chkL b l d m hs) ≠ 0) := h0
  have hc := chk0 (Classical.not_not.1 h0)
  have hcb := hc.bl
  obtain ⟨N, hN⟩ : ∃ N : Nat, cntL b l d = (N : Int) := ⟨(cntL b l d).toNat, by have := hc.c1; omega⟩
  have hN1 : 1 ≤ N := by have := hc.c1; omega
  refine ⟨rfl, rfl, rfl, rfl, rfl, by show hs.length ≤ 2000000; first | omega | assumption, fun h1 => ?_, fun h1 => ?_⟩
  ·replace h1 : ¬ (¬ (fewP b l d m hs 12)) := h1
   have h12 : N ≤ 12 := by have := (Classical.not_not.1 h1).2 hc.chk; omega
   have hper : (if chkL b l d m hs = 0 then cntL b l d else 0) = (N : Int) := by rw [if_pos hc.chk, hN]
   have hHH := hc.h12
   refine ⟨fun h2 => ?_, fun h2 => ?_⟩
   ·replace h2 : 20 < (cs.length : Int) := h2
    refine ⟨trivial, ?_⟩
    exact ⟨rfl, rfl, congrArg V.b (propext ⟨fun _ => trivial, fun _ => by first | trivial | rfl⟩), rfl⟩
   ·replace h2 : ¬ (20 < (cs.length : Int)) := h2
    obtain ⟨t1, t2⟩ := tm_ok (nu.getD 0 0)
    have hy := tm_ok2 (nu.getD 0 0)
    have hz : 0 ≤ (max 0 (min 1000000 (nu.getD 1 0))) ∧ (max 0 (min 1000000 (nu.getD 1 0))) ≤ 1000000 := by omega
    obtain ⟨ha0, ha1⟩ := add_first hc hN h12 hy hz
    refine ⟨by kernel_rfl, ⟨by show (0 : Int) ≤ 0; omega, by show 0 < (2 : Int); omega, by first | assumption | rfl | simp⟩, .inr (.inr ⟨by show (0 : Int) < 12; omega, ?_⟩)⟩
    refine ⟨⟨by show (-9223372036854775808 : Int) ≤ ((Int.tmod (nu.getD 0 0) 12) + 12); omega, by show ((Int.tmod (nu.getD 0 0) 12) + 12) ≤ (9223372036854775807 : Int); omega⟩, .inr (.inr ⟨by show (0 : Int) < 12; omega, ?_⟩)⟩
    refine ⟨⟨by show (0 : Int) ≤ 1; omega, by show 1 < (2 : Int); omega, by first | assumption | rfl | simp⟩, rfl, rfl, rfl, rfl, rfl, rfl, rfl, rfl, rfl, ⟨by show ([]).length ≤ 1048576; first | omega | assumption | (simp only [List.length_cons, List.length_nil, List.length_append, List.length_take, List.length_drop, List.length_set, List.length_replicate]; omega), (by intro a ha; cases ha), by show ([]).length ≤ 1048576; first | omega | assumption | (simp only [List.length_cons, List.length_nil, List.length_append, List.length_take, List.length_drop, List.length_set, List.length_replicate]; omega)⟩, fun h3 => absurd h3 (show ¬ ((addE ([]) (1, (2, (3, (([]), ((Int.tmod ((Int.tmod (nu.getD 0 0) 12) + 12) 12), ((-1), ((max 0 (min 1000000 (nu.getD 1 0))), (1000001, ((-1), (0, ()))))))))))) ≠ 0) by exact fun h => h ha0), fun h3 => ?_⟩
    refine ⟨rfl, rfl, rfl, rfl, by show hs.length ≤ 2000000; first | omega | assumption, fun h4 => ?_, fun h4 => absurd h4 (show ¬ ((if chkL b l d m hs = 0 then cntL b l d else 0) < 1) by rw [hper]; omega)⟩
    refine ⟨fun h5 => absurd h5 (show ¬ (12 < (if chkL b l d m hs = 0 then cntL b l d else 0)) by rw [hper]; omega), fun h5 => ?_⟩
    refine ⟨3, [(3, .k), (4, .k), (9, .w (.cons (.int .i64) (.cons (.int .i64) (.cons (.int .i64) (.cons (.sl (.int .i64)) (.cons (.int .i64) (.cons (.int .i64) (.cons (.int .i64) (.cons (.int .i64) (.cons (.int .i64) (.cons (.int .i64) .nil))))))))))), (66, .k), (67, .k)], fun nM vs H => ∃ (q : Nat), q ≤ N ∧ nM = N - q ∧ vs = [.ptr 0 1 0 0, .ptr 1 1 0 0, .own (.cons (.int .i64) (.cons (.int .i64) (.cons (.int .i64) (.cons (.sl (.int .i64)) (.cons (.int .i64) (.cons (.int .i64) (.cons (.int .i64) (.cons (.int .i64) (.cons (.int .i64) (.cons (.int .i64) .nil)))))))))) 3, .int .i64 (if chkL b l d m hs = 0 then cntL b l d else 0), .int .i64 (q : Int)] ∧ H = [.cells [.int .i64 b, .int .i64 l, .int .i64 d, .int .i64 m, .sl false (.int .i64) hs], .cells [.int .i64 bad, .sl false (.cons (.int .i64) (.cons (.int .i64) .nil)) cs], .row true (.int .i64) nu, .row false (.cons (.int .i64) (.cons (.int .i64) (.cons (.int .i64) (.cons (.sl (.int .i64)) (.cons (.int .i64) (.cons (.int .i64) (.cons (.int .i64) (.cons (.int .i64) (.cons (.int .i64) (.cons (.int .i64) .nil)))))))))) (ldg b l d hs (Int.tmod ((Int.tmod (nu.getD 0 0) 12) + 12) 12) (max 0 (min 1000000 (nu.getD 1 0))) (q * hs.length))], ⟨rfl, N, 0, by omega, by omega, rfl, by rw [Nat.zero_mul, ← ha1]; rfl⟩, ?_⟩
    rintro nM vs H ⟨q, hc1_0, rfl, rfl, rfl⟩
    refine ⟨fun h6 => ?_, fun h6 => ?_⟩
    ·replace h6 : (q : Int) < (if chkL b l d m hs = 0 then cntL b l d else 0) := h6
     rw [hper] at h6
     have hqN : q < N := by omega
     have hask := hc.ask (q := (q : Int)) (by omega) (by omega)
     have he1 : (if askL b l d m hs (q : Int) = 0 then expF b d (q : Int) else 0) = expF b d (q : Int) := if_pos hask
     have he2 : (if askL b l d m hs (q : Int) = 0 then expT b l d (q : Int) else 0) = expT b l d (q : Int) := if_pos hask
     obtain ⟨x1, x2, x3⟩ := exp_bd hc (q := (q : Int)) (by omega) (by omega)
     have x4 : expT b l d (q : Int) ≤ 1000002 := by have := hc.l1; unfold expT; omega
     have x5 : 0 ≤ expT b l d (q : Int) := by have := hc.b0; have := (hc.qn (q := (q : Int)) (by omega) (by omega)).1; have := hc.bl; have := hc.n1; unfold expT; omega
     refine ⟨rfl, rfl, rfl, rfl, rfl, by show hs.length ≤ 2000000; first | omega | assumption, fun h7 => absurd h7 (show ¬ ((askL b l d m hs (q : Int)) ≠ 0) by exact fun h => h hask), fun h7 => ?_⟩
     refine ⟨3, [(3, .k), (4, .k), (9, .w (.cons (.int .i64) (.cons (.int .i64) (.cons (.int .i64) (.cons (.sl (.int .i64)) (.cons (.int .i64) (.cons (.int .i64) (.cons (.int .i64) (.cons (.int .i64) (.cons (.int .i64) (.cons (.int .i64) .nil))))))))))), (12, .k), (13, .k), (14, .k), (66, .k), (67, .k), (80, .k), (81, .k), (82, .k)], fun nM vs H => ∃ (k : Nat), k ≤ hs.length ∧ nM = hs.length - k ∧ vs = [.ptr 0 1 0 0, .ptr 1 1 0 0, .own (.cons (.int .i64) (.cons (.int .i64) (.cons (.int .i64) (.cons (.sl (.int .i64)) (.cons (.int .i64) (.cons (.int .i64) (.cons (.int .i64) (.cons (.int .i64) (.cons (.int .i64) (.cons (.int .i64) .nil)))))))))) 3, .int .i64 (q : Int), .int .i64 (if askL b l d m hs (q : Int) = 0 then expF b d (q : Int) else 0), .int .i64 (if askL b l d m hs (q : Int) = 0 then expT b l d (q : Int) else 0), .int .i64 (if chkL b l d m hs = 0 then cntL b l d else 0), .int .i64 (q : Int), .sl false (.int .i64) hs, .int .i64 (hs.length : Int), .int .i64 (k : Int)] ∧ H = [.cells [.int .i64 b, .int .i64 l, .int .i64 d, .int .i64 m, .sl false (.int .i64) hs], .cells [.int .i64 bad, .sl false (.cons (.int .i64) (.cons (.int .i64) .nil)) cs], .row true (.int .i64) nu, .row false (.cons (.int .i64) (.cons (.int .i64) (.cons (.int .i64) (.cons (.sl (.int .i64)) (.cons (.int .i64) (.cons (.int .i64) (.cons (.int .i64) (.cons (.int .i64) (.cons (.int .i64) (.cons (.int .i64) .nil)))))))))) (ldg b l d hs (Int.tmod ((Int.tmod (nu.getD 0 0) 12) + 12) 12) (max 0 (min 1000000 (nu.getD 1 0))) (q * hs.length + k))], ⟨rfl, hs.length, 0, by omega, by omega, rfl, rfl⟩, ?_⟩
     rintro nM vs H ⟨k, hc2_0, rfl, rfl, rfl⟩
     refine ⟨fun h8 => ?_, fun h8 => ?_⟩
     ·replace h8 : (k : Int) < (hs.length : Int) := h8
      have hkh : k < hs.length := by omega
      obtain ⟨k1, k2⟩ := hsF_at hs (-1) _ hc.ho hkh
      have hqm : q * hs.length ≤ 12 * 12 := Nat.mul_le_mul (by omega) hc.h12
      have hqc : ((q : Int) * (hs.length : Int)) = ((q * hs.length : Nat) : Int) := (Int.natCast_mul _ _).symm
      have hnn : q * hs.length + k < N * hs.length := by have : (q + 1) * hs.length ≤ N * hs.length := Nat.mul_le_mul_right _ (by omega); rw [Nat.succ_mul] at this; omega
      obtain ⟨ad1, ad2⟩ := add_next (y := (Int.tmod ((Int.tmod (nu.getD 0 0) 12) + 12) 12)) (z := (max 0 (min 1000000 (nu.getD 1 0)))) hc hN h12 hy hz hnn
      rw [sh_at hkh, ← he1, ← he2] at ad1 ad2
      have hsh1 : 0 < (q : Int) → addE (ldg b l d hs (Int.tmod ((Int.tmod (nu.getD 0 0) 12) + 12) 12) (max 0 (min 1000000 (nu.getD 1 0))) (q * hs.length + k)) (((2 + ((q : Int) * (hs.length : Int))) + (k : Int)), (3, (3, (([(((2 + ((q : Int) * (hs.length : Int))) + (k : Int)) - (hs.length : Int))] : List Int), (hs.getD k 0, (0, ((if askL b l d m hs (q : Int) = 0 then expF b d (q : Int) else 0), (min 1000001 ((if askL b l d m hs (q : Int) = 0 then expT b l d (q : Int) else 0) + 1), (hs.getD k 0, ((q : Int), ())))))))))) = 0 ∧ addL (ldg b l d hs (Int.tmod ((Int.tmod (nu.getD 0 0) 12) + 12) 12) (max 0 (min 1000000 (nu.getD 1 0))) (q * hs.length + k)) (((2 + ((q : Int) * (hs.length : Int))) + (k : Int)), (3, (3, (([(((2 + ((q : Int) * (hs.length : Int))) + (k : Int)) - (hs.length : Int))] : List Int), (hs.getD k 0, (0, ((if askL b l d m hs (q : Int) = 0 then expF b d (q : Int) else 0), (min 1000001 ((if askL b l d m hs (q : Int) = 0 then expT b l d (q : Int) else 0) + 1), (hs.getD k 0, ((q : Int), ())))))))))) = ldg b l d hs (Int.tmod ((Int.tmod (nu.getD 0 0) 12) + 12) 12) (max 0 (min 1000000 (nu.getD 1 0))) (q * hs.length + k + 1) := fun g => by rw [if_pos g] at ad1 ad2; exact ⟨ad1, ad2⟩
      have hsh2 : ¬ 0 < (q : Int) → addE (ldg b l d hs (Int.tmod ((Int.tmod (nu.getD 0 0) 12) + 12) 12) (max 0 (min 1000000 (nu.getD 1 0))) (q * hs.length + k)) (((2 + ((q : Int) * (hs.length : Int))) + (k : Int)), (3, (3, ([], (hs.getD k 0, (0, ((if askL b l d m hs (q : Int) = 0 then expF b d (q : Int) else 0), (min 1000001 ((if askL b l d m hs (q : Int) = 0 then expT b l d (q : Int) else 0) + 1), (hs.getD k 0, ((q : Int), ())))))))))) = 0 ∧ addL (ldg b l d hs (Int.tmod ((Int.tmod (nu.getD 0 0) 12) + 12) 12) (max 0 (min 1000000 (nu.getD 1 0))) (q * hs.length + k)) (((2 + ((q : Int) * (hs.length : Int))) + (k : Int)), (3, (3, ([], (hs.getD k 0, (0, ((if askL b l d m hs (q : Int) = 0 then expF b d (q : Int) else 0), (min 1000001 ((if askL b l d m hs (q : Int) = 0 then expT b l d (q : Int) else 0) + 1), (hs.getD k 0, ((q : Int), ())))))))))) = ldg b l d hs (Int.tmod ((Int.tmod (nu.getD 0 0) 12) + 12) 12) (max 0 (min 1000000 (nu.getD 1 0))) (q * hs.length + k + 1) := fun g => by rw [if_neg g] at ad1 ad2; exact ⟨ad1, ad2⟩
      have hadd1 := fun g => (hsh1 g).1
      have hadd2 := fun g => (hsh2 g).1
      refine ⟨⟨by show (0 : Int) ≤ (k : Int); omega, by show (k : Int) < (hs.length : Int); omega⟩, ⟨by show (-9223372036854775808 : Int) ≤ ((q : Int) * (hs.length : Int)); omega, by show ((q : Int) * (hs.length : Int)) ≤ (9223372036854775807 : Int); omega⟩, ⟨by show (-9223372036854775808 : Int) ≤ (2 + ((q : Int) * (hs.length : Int))); omega, by show (2 + ((q : Int) * (hs.length : Int))) ≤ (9223372036854775807 : Int); omega⟩, ⟨by show (-9223372036854775808 : Int) ≤ ((2 + ((q : Int) * (hs.length : Int))) + (k : Int)); omega, by show ((2 + ((q : Int) * (hs.length : Int))) + (k : Int)) ≤ (9223372036854775807 : Int); omega⟩, ⟨by show (-9223372036854775808 : Int) ≤ ((if askL b l d m hs (q : Int) = 0 then expT b l d (q : Int) else 0) + 1); omega, by show ((if askL b l d m hs (q : Int) = 0 then expT b l d (q : Int) else 0) + 1) ≤ (9223372036854775807 : Int); omega⟩, ⟨rfl, rfl, rfl, Nat.le_of_ble_eq_true rfl⟩, fun h9 => ?_, fun h9 => ?_⟩
      ·replace h9 : 0 < (q : Int) := h9
       refine ⟨⟨by show (-9223372036854775808 : Int) ≤ (((2 + ((q : Int) * (hs.length : Int))) + (k : Int)) - (hs.length : Int)); omega, by show (((2 + ((q : Int) * (hs.length : Int))) + (k : Int)) - (hs.length : Int)) ≤ (9223372036854775807 : Int); omega⟩, rfl, ⟨rfl, rfl, rfl⟩, rfl, rfl, rfl, rfl, rfl, rfl, rfl, rfl, rfl, ⟨by rw [ldg_len]; omega, ldg_of, by show ([(((2 + ((q : Int) * (hs.length : Int))) + (k : Int)) - (hs.length : Int))] : List Int).length ≤ 1048576; first | omega | assumption | (simp only [List.length_cons, List.length_nil, List.length_append, List.length_take, List.length_drop, List.length_set, List.length_replicate]; omega)⟩, fun h10 => absurd h10 (show ¬ ((addE (ldg b l d hs (Int.tmod ((Int.tmod (nu.getD 0 0) 12) + 12) 12) (max 0 (min 1000000 (nu.getD 1 0))) (q * hs.length + k)) (((2 + ((q : Int) * (hs.length : Int))) + (k : Int)), (3, (3, (([(((2 + ((q : Int) * (hs.length : Int))) + (k : Int)) - (hs.length : Int))] : List Int), ((hs.getD k 0), (0, ((if askL b l d m hs (q : Int) = 0 then expF b d (q : Int) else 0), ((min 1000001 ((if askL b l d m hs (q : Int) = 0 then expT b l d (q : Int) else 0) + 1)), ((hs.getD k 0), ((q : Int), ()))))))))))) ≠ 0) by exact fun h => h (by first | exact hadd1 (by assumption) | exact hadd2 (by assumption))), fun h10 => ?_⟩
       refine ⟨⟨by show (-9223372036854775808 : Int) ≤ ((k : Int) + 1); omega, by show ((k : Int) + 1) ≤ (9223372036854775807 : Int); omega⟩, ?_⟩
       exact ⟨rfl, hs.length - (k + 1), by omega, k + 1, by omega, rfl, rfl, congrArg (fun L => ([.cells [.int .i64 b, .int .i64 l, .int .i64 d, .int .i64 m, .sl false (.int .i64) hs], .cells [.int .i64 bad, .sl false (.cons (.int .i64) (.cons (.int .i64) .nil)) cs], .row true (.int .i64) nu, .row false (.cons (.int .i64) (.cons (.int .i64) (.cons (.int .i64) (.cons (.sl (.int .i64)) (.cons (.int .i64) (.cons (.int .i64) (.cons (.int .i64) (.cons (.int .i64) (.cons (.int .i64) (.cons (.int .i64) .nil)))))))))) L] : List Blk)) (hsh1 (by assumption)).2⟩
      ·replace h9 : ¬ (0 < (q : Int)) := h9
       refine ⟨rfl, rfl, rfl, rfl, rfl, rfl, rfl, rfl, rfl, ⟨by rw [ldg_len]; omega, ldg_of, by show ([]).length ≤ 1048576; first | omega | assumption | (simp only [List.length_cons, List.length_nil, List.length_append, List.length_take, List.length_drop, List.length_set, List.length_replicate]; omega)⟩, fun h11 => absurd h11 (show ¬ ((addE (ldg b l d hs (Int.tmod ((Int.tmod (nu.getD 0 0) 12) + 12) 12) (max 0 (min 1000000 (nu.getD 1 0))) (q * hs.length + k)) (((2 + ((q : Int) * (hs.length : Int))) + (k : Int)), (3, (3, (([]), ((hs.getD k 0), (0, ((if askL b l d m hs (q : Int) = 0 then expF b d (q : Int) else 0), ((min 1000001 ((if askL b l d m hs (q : Int) = 0 then expT b l d (q : Int) else 0) + 1)), ((hs.getD k 0), ((q : Int), ()))))))))))) ≠ 0) by exact fun h => h (by first | exact hadd1 (by assumption) | exact hadd2 (by assumption))), fun h11 => ?_⟩
       refine ⟨⟨by show (-9223372036854775808 : Int) ≤ ((k : Int) + 1); omega, by show ((k : Int) + 1) ≤ (9223372036854775807 : Int); omega⟩, ?_⟩
       exact ⟨rfl, hs.length - (k + 1), by omega, k + 1, by omega, rfl, rfl, congrArg (fun L => ([.cells [.int .i64 b, .int .i64 l, .int .i64 d, .int .i64 m, .sl false (.int .i64) hs], .cells [.int .i64 bad, .sl false (.cons (.int .i64) (.cons (.int .i64) .nil)) cs], .row true (.int .i64) nu, .row false (.cons (.int .i64) (.cons (.int .i64) (.cons (.int .i64) (.cons (.sl (.int .i64)) (.cons (.int .i64) (.cons (.int .i64) (.cons (.int .i64) (.cons (.int .i64) (.cons (.int .i64) (.cons (.int .i64) .nil)))))))))) L] : List Blk)) (hsh2 (by assumption)).2⟩
     ·replace h8 : ¬ ((k : Int) < (hs.length : Int)) := h8
      have hkH : k = hs.length := by omega
      refine ⟨⟨by show (-9223372036854775808 : Int) ≤ ((q : Int) + 1); omega, by show ((q : Int) + 1) ≤ (9223372036854775807 : Int); omega⟩, ?_⟩
      exact ⟨rfl, N - (q + 1), by omega, q + 1, by omega, rfl, rfl, by rw [hkH, ← Nat.succ_mul]; rfl⟩
    ·replace h6 : ¬ ((q : Int) < (if chkL b l d m hs = 0 then cntL b l d else 0)) := h6
     rw [hper] at h6
     have hqN : q = N := by omega
     have hNq : cntL b l d = (q : Int) := by omega
     have hck := ldg_chk (y := (Int.tmod ((Int.tmod (nu.getD 0 0) 12) + 12) 12)) (z := (max 0 (min 1000000 (nu.getD 1 0)))) hc hNq (by omega) hy hz (n := q * hs.length) (Nat.le_refl _)
     have eH := cal_hasE (bad := bad) (cs := cs) hck
     have eT := cal_tolE (bad := bad) (cs := cs) hc hck
     have eR : redL b l d m hs bad cs = spE bad cs := sp_red hc
     have hqm : q * hs.length ≤ 12 * 12 := Nat.mul_le_mul (by omega) hc.h12
     have hhl := hasL_le (ldg b l d hs (Int.tmod ((Int.tmod (nu.getD 0 0) 12) + 12) 12) (max 0 (min 1000000 (nu.getD 1 0))) (q * hs.length)) bad cs
     have hll : (ldg b l d hs (Int.tmod ((Int.tmod (nu.getD 0 0) 12) + 12) 12) (max 0 (min 1000000 (nu.getD 1 0))) (q * hs.length)).length = q * hs.length + 1 := ldg_len
     refine ⟨rfl, ⟨by rw [ldg_len]; omega, ldg_of, by show cs.length ≤ 1048576; first | omega | assumption⟩, rfl, rfl, rfl, ⟨by rw [ldg_len]; omega, ldg_of, by show cs.length ≤ 1048576; first | omega | assumption⟩, rfl, rfl, rfl, rfl, rfl, ⟨by show hs.length ≤ 2000000; first | omega | assumption, by show cs.length ≤ 2000000; first | omega | assumption⟩, fun h12 => ?_, fun h12 => ?_⟩
     ·replace h12 : ¬ ((hasE (ldg b l d hs (Int.tmod ((Int.tmod (nu.getD 0 0) 12) + 12) 12) (max 0 (min 1000000 (nu.getD 1 0))) (q * hs.length)) bad cs) ≠ 0) := h12
      refine ⟨fun h13 => ?_, fun h13 => absurd h13 (show ¬ ((tolE (ldg b l d hs (Int.tmod ((Int.tmod (nu.getD 0 0) 12) + 12) 12) (max 0 (min 1000000 (nu.getD 1 0))) (q * hs.length)) 3 m bad cs) ≠ 0) by rw [eT, ← eH]; assumption)⟩
      refine ⟨fun h14 => absurd h14 (show ¬ ((redL b l d m hs bad cs) ≠ 0) by rw [eR, ← eH]; assumption), fun h14 => ?_⟩
      refine ⟨trivial, fun h15 => ?_, fun h15 => absurd (show True by trivial) h15⟩
      refine ⟨rfl, by show (hasL (ldg b l d hs (Int.tmod ((Int.tmod (nu.getD 0 0) 12) + 12) 12) (max 0 (min 1000000 (nu.getD 1 0))) (q * hs.length)) bad cs).length ≤ 1048576; first | omega | assumption, fun h16 => ?_, fun h16 => ?_⟩
      ·replace h16 : 1 ∈ (hasL (ldg b l d hs (Int.tmod ((Int.tmod (nu.getD 0 0) 12) + 12) 12) (max 0 (min 1000000 (nu.getD 1 0))) (q * hs.length)) bad cs) := h16
       exact ⟨rfl, rfl, congrArg V.b (propext ⟨fun _ => trivial, fun _ => by first | exact ⟨fun g => ((cal_told hc hNq (by omega) hck (by rw [← eH]; exact Classical.not_not.1 (by assumption))).1 g).2, fun g => (cal_told hc hNq (by omega) hck (by rw [← eH]; exact Classical.not_not.1 (by assumption))).2 ⟨by assumption, g⟩⟩ | exact ⟨fun g => absurd ((cal_told hc hNq (by omega) hck (by rw [← eH]; exact Classical.not_not.1 (by assumption))).1 g).1 (by assumption), fun g => Bool.noConfusion g⟩⟩), rfl⟩
      ·replace h16 : ¬ (1 ∈ (hasL (ldg b l d hs (Int.tmod ((Int.tmod (nu.getD 0 0) 12) + 12) 12) (max 0 (min 1000000 (nu.getD 1 0))) (q * hs.length)) bad cs)) := h16
       exact ⟨rfl, rfl, congrArg V.b (propext ⟨fun _ => trivial, fun _ => by first | exact ⟨fun g => ((cal_told hc hNq (by omega) hck (by rw [← eH]; exact Classical.not_not.1 (by assumption))).1 g).2, fun g => (cal_told hc hNq (by omega) hck (by rw [← eH]; exact Classical.not_not.1 (by assumption))).2 ⟨by assumption, g⟩⟩ | exact ⟨fun g => absurd ((cal_told hc hNq (by omega) hck (by rw [← eH]; exact Classical.not_not.1 (by assumption))).1 g).1 (by assumption), fun g => Bool.noConfusion g⟩⟩), rfl⟩
     ·replace h12 : (hasE (ldg b l d hs (Int.tmod ((Int.tmod (nu.getD 0 0) 12) + 12) 12) (max 0 (min 1000000 (nu.getD 1 0))) (q * hs.length)) bad cs) ≠ 0 := h12
      refine ⟨trivial, fun h17 => ?_, fun h17 => absurd (show True by trivial) h17⟩
      refine ⟨fun h18 => ?_, fun h18 => absurd (show (hasE (ldg b l d hs (Int.tmod ((Int.tmod (nu.getD 0 0) 12) + 12) 12) (max 0 (min 1000000 (nu.getD 1 0))) (q * hs.length)) bad cs) = (tolE (ldg b l d hs (Int.tmod ((Int.tmod (nu.getD 0 0) 12) + 12) 12) (max 0 (min 1000000 (nu.getD 1 0))) (q * hs.length)) 3 m bad cs) by rw [eH, eT]) h18⟩
      exact ⟨rfl, rfl, congrArg V.b (propext ⟨fun _ => trivial, fun _ => by rw [eT, eR]⟩), rfl⟩
  ·replace h1 : ¬ (fewP b l d m hs 12) := h1
   refine ⟨trivial, ?_⟩
   exact ⟨rfl, rfl, congrArg V.b (propext ⟨fun _ => trivial, fun _ => by first | trivial | rfl⟩), rfl⟩
 ·replace h0 : (chkL b l d m hs) ≠ 0 := h0
  refine ⟨trivial, ?_⟩
  exact ⟨rfl, rfl, congrArg V.b (propext ⟨fun _ => trivial, fun _ => by first | trivial | rfl⟩), rfl⟩
end Go.Proofs.Ytgljcfnplkcfhaa.S38c

namespace Go.Proofs.Ytgljcfnplkcfhaa.Cd
open Go Go.Proofs.Ytgljcfnplkcfhaa.Vc Go.Proofs Go.Proofs.Ytgljcfnplkcfhaa.S38 Go.ChangeShapes Go.WideShapes Go.ChangeAt Go.RowKit
set_option maxRecDepth 100000
set_option linter.unusedVariables false

theorem bulkAll {H : Type} : ∀ l : List (DataW H), Rows.uptoBulkAll l = (l.map Rows.uptoBulk).sum
  | [] => rfl
  | d :: l => by rw [Rows.uptoBulkAll, bulkAll l]; rfl
theorem bulk {H : Type} : Bulk (H := H) Rows.uptoBulk where
  one d := by cases d with
    | lit l => cases l <;> simp [Rows.uptoBulk]
    | _ => simp [Rows.uptoBulk]
  str b := by simp [Rows.uptoBulk]
  sl es sp := by rw [Rows.uptoBulk, bulkAll, bulkAll]; omega
  agg ps := by rw [Rows.uptoBulk, bulkAll]; omega
theorem wt_cons (t ts : Ty) (x : (Ty.cons t ts).D) : wt (.cons t ts) x = wt t x.1 + wt ts x.2 := rfl
theorem wt_int (k : IntKind) (x : Int) : wt (.int k) x = 1 := rfl
theorem wt_nil (x : Unit) : wt .nil x = 0 := rfl
theorem wt_sl (t : Ty) (h : ∀ x, 1 ≤ wt t x) (xs : List t.D) : xs.length ≤ wt (.sl t) xs := by
  have e : wt (.sl t) xs = (xs.map (wt t)).sum + 1 := rfl
  rw [e]
  clear e
  induction xs with
  | nil => simp
  | cons x xs ih => have := h x; simp only [List.map_cons, List.sum_cons, List.length_cons]; omega
theorem wt_mem (t : Ty) (xs : List t.D) : ∀ a ∈ xs, wt t a ≤ wt (.sl t) xs := fun a ha => by
  have e : wt (.sl t) xs = (xs.map (wt t)).sum + 1 := rfl
  rw [e]
  clear e
  induction xs with
  | nil => cases ha
  | cons x xs ih =>
    simp only [List.map_cons, List.sum_cons]
    rcases List.mem_cons.1 ha with g | g
    · subst g; omega
    · have := ih g; omega
theorem wt_art (a : (Int × (Int × (Int × (List Int × (Int × (Int × (Int × (Int × (Int × (Int × Unit))))))))))) : a.2.2.2.1.length ≤ wt (.cons (.int .i64) (.cons (.int .i64) (.cons (.int .i64) (.cons (.sl (.int .i64)) (.cons (.int .i64) (.cons (.int .i64) (.cons (.int .i64) (.cons (.int .i64) (.cons (.int .i64) (.cons (.int .i64) .nil)))))))))) a ∧ 1 ≤ wt (.cons (.int .i64) (.cons (.int .i64) (.cons (.int .i64) (.cons (.sl (.int .i64)) (.cons (.int .i64) (.cons (.int .i64) (.cons (.int .i64) (.cons (.int .i64) (.cons (.int .i64) (.cons (.int .i64) .nil)))))))))) a := by
  simp only [wt_cons, wt_int, wt_nil, wt_ints]
  omega
theorem led_len (xs : List (Int × (Int × (Int × (List Int × (Int × (Int × (Int × (Int × (Int × (Int × Unit))))))))))) : xs.length ≤ wt (.sl (.cons (.int .i64) (.cons (.int .i64) (.cons (.int .i64) (.cons (.sl (.int .i64)) (.cons (.int .i64) (.cons (.int .i64) (.cons (.int .i64) (.cons (.int .i64) (.cons (.int .i64) (.cons (.int .i64) .nil))))))))))) xs := wt_sl (.cons (.int .i64) (.cons (.int .i64) (.cons (.int .i64) (.cons (.sl (.int .i64)) (.cons (.int .i64) (.cons (.int .i64) (.cons (.int .i64) (.cons (.int .i64) (.cons (.int .i64) (.cons (.int .i64) .nil)))))))))) (fun x => (wt_art x).2) xs
theorem led_of (xs : List (Int × (Int × (Int × (List Int × (Int × (Int × (Int × (Int × (Int × (Int × Unit))))))))))) : ∀ a ∈ xs, a.2.2.2.1.length ≤ wt (.sl (.cons (.int .i64) (.cons (.int .i64) (.cons (.int .i64) (.cons (.sl (.int .i64)) (.cons (.int .i64) (.cons (.int .i64) (.cons (.int .i64) (.cons (.int .i64) (.cons (.int .i64) (.cons (.int .i64) .nil))))))))))) xs := fun a ha => Nat.le_trans (wt_art a).1 (wt_mem (.cons (.int .i64) (.cons (.int .i64) (.cons (.int .i64) (.cons (.sl (.int .i64)) (.cons (.int .i64) (.cons (.int .i64) (.cons (.int .i64) (.cons (.int .i64) (.cons (.int .i64) (.cons (.int .i64) .nil)))))))))) xs a ha)
theorem cap_len (xs : List (Int × (Int × Unit))) : xs.length ≤ wt (.sl (.cons (.int .i64) (.cons (.int .i64) .nil))) xs := wt_sl (.cons (.int .i64) (.cons (.int .i64) .nil)) (fun x => by simp only [wt_cons, wt_int, wt_nil]; omega) xs
theorem spy_len (xs : List (Int × (List (Int × (Int × Unit)) × Unit))) : ∀ s ∈ xs, s.2.1.length ≤ wt (.arr 2 (.cons (.int .i64) (.cons (.sl (.cons (.int .i64) (.cons (.int .i64) .nil))) .nil))) xs := fun s hs => by
  have e : wt (.arr 2 (.cons (.int .i64) (.cons (.sl (.cons (.int .i64) (.cons (.int .i64) .nil))) .nil))) xs = (xs.map (wt (.cons (.int .i64) (.cons (.sl (.cons (.int .i64) (.cons (.int .i64) .nil))) .nil)))).sum := rfl
  rw [e]
  clear e
  have h1 : s.2.1.length ≤ wt (.cons (.int .i64) (.cons (.sl (.cons (.int .i64) (.cons (.int .i64) .nil))) .nil)) s := by
    have := cap_len s.2.1
    have e : wt (.cons (.int .i64) (.cons (.sl (.cons (.int .i64) (.cons (.int .i64) .nil))) .nil)) s = 1 + (wt (.sl (.cons (.int .i64) (.cons (.int .i64) .nil))) s.2.1 + 0) := rfl
    omega
  induction xs with
  | nil => cases hs
  | cons x xs ih =>
    simp only [List.map_cons, List.sum_cons]
    rcases List.mem_cons.1 hs with g | g
    · subst g; omega
    · have := ih g; omega
theorem laidOut : laidOutB Try.prog = true := by kernel_rfl
theorem own : ownKnob Try.prog.godebug = none := by kernel_rfl

section
variable {H : Type} {enc : TypeId × Value → H} {P : Program}
theorem post_same {f : Func} {s : ChangeSpec} {apart fresh handsOn again : Bool} {W W' : World} {args : Array Value} {v : Value} {ds gs : List (DataW H)} {before pa pv : List MemPlace}
    (hW : DataW.Whole enc P f.params.toList s.vars apart W args.toList ds gs before)
    (hres : ∀ (b : Nat) (sp : Nat → Bool) (hd : Bool), DataW.TrodAll enc P W' b sp hd f.resultTypes.toList (v.resultList f.resultTypes.size) (s.fn H (ds ++ gs)).results [])
    (hargs : ∀ sp : Nat → Bool, (∀ p ∈ before, sp p.block = true) → DataW.TrodAll enc P W' 0 sp true f.params.toList args.toList (s.fn H (ds ++ gs)).args pa)
    (hvars : ∀ sp : Nat → Bool, (∀ p ∈ before, sp p.block = true) → DataW.TrodVars enc P W' sp s.vars (s.fn H (ds ++ gs)).vars pv)
    (hps : before = pa ++ pv) (hb : Below W.heap.size W W')
    (hok : ∀ (j : Nat) (t : TypeId) (r : Value), f.resultTypes[j]? = some t → (v.resultList f.resultTypes.size)[j]? = some r → Value.okWide P W' .any 0 t r) :
    s.post enc P f apart fresh handsOn again W args v W' := by
  have hlt : ∀ p ∈ before, p.block < W.heap.size := fun p hp => by simpa using hW.lt p hp
  have hold : ∀ p ∈ before, (fun b => decide (b < W.heap.size)) p.block = true := fun p hp => by simpa using hW.lt p hp
  refine ⟨ds, gs, before, [], pa, pv, hW, hres _ _ _, hargs _ hold, hvars _ hold, World.keptBut_mono (fun p hp => ⟨hp, ?_⟩) (hb.frame (· ∈ before)), fun _ => ?_⟩
  · rw [hps, List.mem_append] at hp
    exact Or.inr hp
  · obtain ⟨_, _, _, _, _, hz, hn⟩ := hW
    refine ⟨hok, _, _, ([] ++ pa) ++ pv, ⟨[] ++ pa, pv, trodAll_append (hargs _ (fun _ _ => rfl)) (hres _ _ _), hvars _ (fun _ _ => rfl), rfl, ?_, ?_⟩, ?_⟩
    · intro b off hp
      have hp' : MemPlace.cell b off ∈ before := by rw [hps]; simpa using hp
      rw [hb.frozen (hlt _ hp')]
      exact hz b off hp'
    · intro ha
      have := hn ha
      rw [hps] at this
      simpa using this
    · intro p hp _
      rw [hps]
      simpa using hp
end
end Go.Proofs.Ytgljcfnplkcfhaa.Cd

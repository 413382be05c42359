/- A house that keeps the shares of some periods, tick after tick. -/
import Derived.Test.YtgljcfnplkcfhaaS4
set_option linter.unusedVariables false
set_option linter.unusedSimpArgs false
namespace Go.Proofs.Ytgljcfnplkcfhaa.S29
open Go

theorem hg_iff (top : Int) : ∀ (h : List Int) (p : Int), hgF top p h = true ↔ (∀ q ∈ h, 0 ≤ q ∧ q ≤ top ∧ p < q) ∧ h.Pairwise (· < ·)
  | [], p => by simp [hgF]
  | x :: h, p => by
    rw [hgF, Bool.and_eq_true, decide_eq_true_eq, hg_iff top h x, List.pairwise_cons]
    constructor
    · rintro ⟨h1, h2, h3⟩
      refine ⟨fun q hq => ?_, fun q hq => (h2 q hq).2.2, h3⟩
      rcases List.mem_cons.1 hq with rfl | hq
      · exact h1
      · have := h2 q hq; exact ⟨this.1, this.2.1, by omega⟩
    · rintro ⟨h1, h2, h3⟩
      have h0 := h1 x (by simp)
      exact ⟨h0, fun q hq => by have := h1 q (by simp [hq]); exact ⟨this.1, this.2.1, h2 q hq⟩, h3⟩

theorem pw_len : ∀ (h : List Int) (a n : Int), 0 ≤ n → h.Pairwise (· < ·) → (∀ q ∈ h, a ≤ q ∧ q < a + n) → (h.length : Int) ≤ n
  | [], a, n, hn, _, _ => by simpa using hn
  | x :: h, a, n, hn, hp, hb => by
    rw [List.pairwise_cons] at hp
    have h0 := hb x (by simp)
    have := pw_len h (a + 1) (n - 1) (by omega) hp.2 fun q hq => by
      have h1 := hp.1 q hq
      have h2 := hb q (by simp [hq])
      omega
    simp only [List.length_cons]; omega

/-- What is held before a tick. -/
structure Hd (b l d t : Int) (h : List Int) : Prop where
  bd : ∀ q ∈ h, 0 ≤ q ∧ q < cntL b l d
  srt : h.Pairwise (· < ·)
  ear : ∀ q ∈ h, expF b d q ≤ t
  lat : ∀ q ∈ h, t ≤ expT b l d q
  cur : t ≤ l → ∀ q ∈ h, q ≤ (t - b) / d ∨ (q = (t - b) / d + 1 ∧ (t - b) / d ∈ h)
/-- What is held after what may be taken is taken. -/
structure Hm (b l d t : Int) (h : List Int) : Prop where
  bd : ∀ q ∈ h, 0 ≤ q ∧ q < cntL b l d
  srt : h.Pairwise (· < ·)
  ear : ∀ q ∈ h, expF b d q ≤ t
  lat : ∀ q ∈ h, t ≤ expT b l d q
  cur : t ≤ l → (t - b) / d ∈ h ∧ ∀ q ∈ h, q ≤ (t - b) / d + 1

theorem hd_start (b l d : Int) : Hd b l d b [] := ⟨by simp, .nil, by simp, by simp, by simp⟩

section
variable {b l d m : Int} {hs : List Int} {t : Int} {h : List Int}

theorem expT_lt (hc : Cal b l d m hs) {q r : Int} (h0 : 0 ≤ q) (h1 : q < r) (h2 : r < cntL b l d) : expT b l d q < expT b l d r := by
  obtain ⟨z1, z2, z3⟩ := hc.qn (q := r) (by omega) h2
  have h3 : (q + 1) * d ≤ r * d := Int.mul_le_mul_of_nonneg_right (by omega) (by have := hc.n1; omega)
  rw [Int.add_mul, Int.one_mul] at h3
  have := hc.n1
  unfold expT
  omega

theorem held_len (hc : Cal b l d m hs) (hb : ∀ q ∈ h, 0 ≤ q ∧ q < cntL b l d) (hp : h.Pairwise (· < ·)) (he : ∀ q ∈ h, expF b d q ≤ t) (hl : ∀ q ∈ h, t ≤ expT b l d q) : h.length ≤ 4 := by
  cases h with
  | nil => simp
  | cons x h =>
    have hn := hc.n1
    have := pw_len (x :: h) x 4 (by omega) hp fun q hq => by
      have hx := hb x (by simp)
      have hxl := hl x (by simp)
      have hqe := he q hq
      have hxq : x ≤ q := by
        rw [List.pairwise_cons] at hp
        rcases List.mem_cons.1 hq with rfl | hq
        · omega
        · have := hp.1 q hq; omega
      refine ⟨hxq, ?_⟩
      refine Classical.byContradiction fun hg => ?_
      have h1 : (x + 3) * d ≤ (q - 1) * d := Int.mul_le_mul_of_nonneg_right (by omega) (by omega)
      rw [Int.add_mul] at h1
      unfold expF at hqe
      rw [show max 0 (q - 1) = q - 1 by omega] at hqe
      unfold expT at hxl
      omega
    omega

/-- The period of a tick. -/
theorem tick_in (hc : Cal b l d m hs) (h0 : b ≤ t) (h1 : t ≤ l) : perL b l d m hs t = (t - b) / d ∧ 0 ≤ (t - b) / d ∧ (t - b) / d < cntL b l d ∧ b + (t - b) / d * d ≤ t ∧ t ≤ b + (t - b) / d * d + d - 1 := by
  have hn := hc.n1
  refine ⟨if_pos ⟨hc.chk, h0, h1⟩, Int.ediv_nonneg (by omega) (by omega), ?_, ?_, ?_⟩
  · unfold cntL
    have := Int.ediv_le_ediv (c := d) (by omega) (show t - b ≤ l - b by omega)
    omega
  · have := Int.ediv_mul_le (t - b) (b := d) (by omega)
    omega
  · have h2 := Int.mul_ediv_add_emod (t - b) d
    have h3 := Int.emod_lt_of_pos (t - b) (show 0 < d by omega)
    rw [Int.mul_comm] at h2
    omega
theorem tick_out (h1 : l < t) : perL b l d m hs t = -1 := if_neg (by omega)

theorem look_err (hc : Cal b l d m hs) (hb : ∀ q ∈ h, 0 ≤ q ∧ q < cntL b l d) (hp : h.Pairwise (· < ·)) (h0 : 0 ≤ t) (h1 : t ≤ 1000000) : lokE b l d m hs h t = 0 := by
  unfold lokE
  rw [if_pos hc.chk, if_pos ((hg_iff _ h (-1)).2 ⟨fun q hq => by have := hb q hq; omega, hp⟩), if_pos ⟨h0, h1⟩]
theorem late_none (hl : ∀ q ∈ h, t ≤ expT b l d q) : lokT b l d m hs h t = [] := by
  unfold lokT
  split
  · rw [List.filter_eq_nil_iff]
    intro q hq
    have := hl q hq
    simp only [ltP, decide_eq_true_eq]; omega
  · rfl
theorem early_none (he : ∀ q ∈ h, expF b d q ≤ t) : lokR b l d m hs h t = [] := by
  unfold lokR
  split
  · rw [List.filter_eq_nil_iff]
    intro q hq
    have := he q hq
    simp only [eaP, decide_eq_true_eq]; omega
  · rfl

theorem pw_snoc {x : Int} (hp : h.Pairwise (· < ·)) (hx : ∀ q ∈ h, q < x) : (h ++ [x]).Pairwise (· < ·) := by
  rw [List.pairwise_append]
  exact ⟨hp, List.pairwise_singleton _ _, fun a ha c hc => by rw [List.mem_singleton.1 hc]; exact hx a ha⟩

/-- The share that is needed is taken, if it is lacked. -/
theorem must_yes (hc : Cal b l d m hs) (hd : Hd b l d t h) (h0 : b ≤ t) (hk : lokL b l d m hs h t) : Hm b l d t (h ++ [lokM b l d m hs h t]) := by
  obtain ⟨hE, hp0, hno⟩ := hk
  have hM : lokM b l d m hs h t = perL b l d m hs t := if_pos hE
  have htl : t ≤ l := by
    refine Classical.byContradiction fun g => ?_
    rw [tick_out (by omega)] at hp0; omega
  obtain ⟨e, p0, p1, p2, p3⟩ := tick_in hc h0 htl
  rw [hM, e]
  rw [e] at hno
  have hn := hc.n1
  have hlt : ∀ q ∈ h, q < (t - b) / d := fun q hq => by
    rcases hd.cur htl q hq with g | ⟨_, g⟩
    · rcases Int.lt_or_eq_of_le g with g | g
      · exact g
      · exact absurd (g ▸ hq) hno
    · exact absurd g hno
  have hm : ∀ q ∈ h ++ [(t - b) / d], q ∈ h ∨ q = (t - b) / d := fun q hq => by simpa using hq
  refine ⟨fun q hq => ?_, pw_snoc hd.srt hlt, fun q hq => ?_, fun q hq => ?_, fun _ => ⟨by simp, fun q hq => ?_⟩⟩
  · rcases hm q hq with g | rfl
    · exact hd.bd q g
    · exact ⟨p0, p1⟩
  · rcases hm q hq with g | rfl
    · exact hd.ear q g
    · have := (hc.qn1 p0 p1).2
      unfold expF; omega
  · rcases hm q hq with g | rfl
    · exact hd.lat q g
    · unfold expT; omega
  · rcases hm q hq with g | rfl
    · have := hlt q g; omega
    · omega
theorem must_no (hc : Cal b l d m hs) (hd : Hd b l d t h) (h0 : b ≤ t) (hE : lokE b l d m hs h t = 0) (hk : ¬ lokL b l d m hs h t) : Hm b l d t h := by
  refine ⟨hd.bd, hd.srt, hd.ear, hd.lat, fun htl => ?_⟩
  obtain ⟨e, p0, p1, p2, p3⟩ := tick_in hc h0 htl
  have hin : (t - b) / d ∈ h := Classical.byContradiction fun g => hk ⟨hE, by rw [e]; exact p0, by rw [e]; exact g⟩
  refine ⟨hin, fun q hq => ?_⟩
  rcases hd.cur htl q hq with g | ⟨g, _⟩ <;> omega

/-- The next one is taken. -/
theorem may_yes (hc : Cal b l d m hs) (hm : Hm b l d t h) (h0 : b ≤ t) {z : List Int} (hEz : lokE b l d m hs z t = 0) (hy : 0 ≤ lokY b l d m hs z t) (hl : (h.length : Int) = 0 ∨ h.getD ((h.length : Int) - 1).toNat 0 < lokY b l d m hs z t) : Hm b l d t (h ++ [lokY b l d m hs z t]) := by
  have hn := hc.n1
  have key : perL b l d m hs t + 1 < cntL b l d ∧ 0 ≤ perL b l d m hs t ∧ lokY b l d m hs z t = perL b l d m hs t + 1 := by
    unfold lokY at hy ⊢
    rw [if_pos hEz] at hy ⊢
    split
    · rename_i g2; exact ⟨g2.2, g2.1, rfl⟩
    · rename_i g2; rw [if_neg g2] at hy; omega
  have hlast : ∀ q ∈ h, q < lokY b l d m hs z t := by
    rcases hl with g | g
    · have : h = [] := List.eq_nil_of_length_eq_zero (by omega)
      subst this; simp
    · intro q hq
      obtain ⟨i, hi⟩ := List.mem_iff_getElem?.1 hq
      have hlt := (List.getElem?_eq_some_iff.1 hi).1
      rw [show ((h.length : Int) - 1).toNat = h.length - 1 by omega] at g
      have e : h.getD (h.length - 1) 0 = h[h.length - 1]'(by omega) := by simp [List.getD_eq_getElem?_getD, List.getElem?_eq_getElem (show h.length - 1 < h.length by omega)]
      rw [e] at g
      have hq' : q = h[i] := (List.getElem?_eq_some_iff.1 hi).2.symm
      rcases Nat.lt_or_ge i (h.length - 1) with g2 | g2
      · have := List.pairwise_iff_getElem.1 hm.srt i (h.length - 1) hlt (by omega) g2
        omega
      · have : i = h.length - 1 := by omega
        subst this
        omega
  obtain ⟨k1, k2, k3⟩ := key
  · have htl : t ≤ l := by
      refine Classical.byContradiction fun g => ?_
      rw [tick_out (by omega)] at k2; omega
    obtain ⟨e, p0, p1, p2, p3⟩ := tick_in hc h0 htl
    rw [k3, e] at hlast ⊢
    rw [e] at k1
    obtain ⟨z1, z2, z3⟩ := hc.qn (q := (t - b) / d + 1) (by omega) k1
    rw [Int.add_mul, Int.one_mul] at z2
    have hmm : ∀ q ∈ h ++ [(t - b) / d + 1], q ∈ h ∨ q = (t - b) / d + 1 := fun q hq => by simpa using hq
    refine ⟨fun q hq => ?_, pw_snoc hm.srt hlast, fun q hq => ?_, fun q hq => ?_, fun _ => ⟨by simp [(hm.cur htl).1], fun q hq => ?_⟩⟩
    · rcases hmm q hq with g | rfl
      · exact hm.bd q g
      · exact ⟨by omega, k1⟩
    · rcases hmm q hq with g | rfl
      · exact hm.ear q g
      · unfold expF
        rw [show max 0 ((t - b) / d + 1 - 1) = (t - b) / d by omega]; omega
    · rcases hmm q hq with g | rfl
      · exact hm.lat q g
      · unfold expT
        rw [Int.add_mul, Int.one_mul]; omega
    · rcases hmm q hq with g | rfl
      · exact (hm.cur htl).2 q g
      · omega

/-- When all is taken, nothing is lacked. -/
theorem no_lack (hc : Cal b l d m hs) (hm : Hm b l d t h) (h0 : b ≤ t) : ¬ lokL b l d m hs h t := fun ⟨_, hp, hno⟩ => by
  have htl : t ≤ l := by
    refine Classical.byContradiction fun g => ?_
    rw [tick_out (by omega)] at hp; omega
  obtain ⟨e, _⟩ := tick_in hc h0 htl
  rw [e] at hno
  exact hno (hm.cur htl).1

theorem filter_pre {p : Int → Bool} : ∀ {h : List Int}, h.Pairwise (· < ·) → (∀ x ∈ h, ∀ y ∈ h, x < y → p y = true → p x = true) → h.take (h.filter p).length = h.filter p ∧ ∀ q ∈ h.drop (h.filter p).length, p q = false
  | [], _, _ => by simp
  | x :: h, hp, ha => by
    rw [List.pairwise_cons] at hp
    obtain ⟨g1, g2⟩ := filter_pre hp.2 fun a ha' c hc' => ha a (by simp [ha']) c (by simp [hc'])
    cases hx : p x with
    | true => rw [List.filter_cons_of_pos hx]; exact ⟨by simp [g1], by simpa using g2⟩
    | false =>
      have hn : h.filter p = [] := by
        rw [List.filter_eq_nil_iff]
        intro y hy hpy
        have := ha x (by simp) y (by simp [hy]) (hp.1 y hy) hpy
        rw [hx] at this; cases this
      rw [List.filter_cons_of_neg (by rw [hx]; decide), hn]
      refine ⟨rfl, fun q hq => ?_⟩
      rcases List.mem_cons.1 (by simpa using hq) with rfl | hq
      · exact hx
      · have := List.filter_eq_nil_iff.1 hn q hq
        simpa using this

theorem wipe_ok (hc : Cal b l d m hs) (hb : ∀ q ∈ h, 0 ≤ q ∧ q < cntL b l d) (hp : h.Pairwise (· < ·)) (hE : lokE b l d m hs h t = 0) : lokW b l d m hs h t = h.filter (wpP b l d t) ∧ h.take (lokW b l d m hs h t).length = lokW b l d m hs h t ∧ ∀ q ∈ h.drop (lokW b l d m hs h t).length, t ≤ spanT b l d q := by
  have e : lokW b l d m hs h t = h.filter (wpP b l d t) := if_pos hE
  obtain ⟨g1, g2⟩ := filter_pre (p := wpP b l d t) hp fun x hx y hy hxy hpy => by
    simp only [wpP, decide_eq_true_eq] at hpy ⊢
    have := expT_lt hc (hb x hx).1 hxy (hb y hy).2
    unfold expT at this
    unfold spanT at hpy ⊢
    omega
  rw [e]
  refine ⟨rfl, g1, fun q hq => ?_⟩
  have := g2 q hq
  simp only [wpP, decide_eq_false_iff_not] at this
  omega
theorem wipe_at (hc : Cal b l d m hs) (hb : ∀ q ∈ h, 0 ≤ q ∧ q < cntL b l d) (hp : h.Pairwise (· < ·)) (hE : lokE b l d m hs h t = 0) : (lokW b l d m hs h t).length ≤ h.length ∧ ∀ j, j < (lokW b l d m hs h t).length → (lokW b l d m hs h t).getD j 0 = h.getD j 0 := by
  obtain ⟨e, e2, _⟩ := wipe_ok hc hb hp hE
  refine ⟨by rw [e]; exact List.length_filter_le _ _, fun j hj => ?_⟩
  rw [List.getD_eq_getElem?_getD, List.getD_eq_getElem?_getD, ← e2, List.getElem?_take, if_pos hj]

/-- The next tick. -/
theorem next_ok (hc : Cal b l d m hs) (hm : Hm b l d t h) (h0 : b ≤ t) (hE : lokE b l d m hs h t = 0) (i : Nat) (hi : i ≤ (lokW b l d m hs h t).length) (hx : ∀ q ∈ h.drop i, expT b l d q ≠ t) : Hd b l d (t + 1) (h.drop i) := by
  have hmem : ∀ q ∈ h.drop i, q ∈ h := fun q hq => List.mem_of_mem_drop hq
  refine ⟨fun q hq => hm.bd q (hmem q hq), hm.srt.sublist (List.drop_sublist i h), fun q hq => by have := hm.ear q (hmem q hq); omega, fun q hq => by have := hm.lat q (hmem q hq); have := hx q hq; omega, fun htl q hq => ?_⟩
  have hn := hc.n1
  obtain ⟨e, p0, p1, p2, p3⟩ := tick_in hc h0 (show t ≤ l by omega)
  obtain ⟨e', r0, r1, r2, r3⟩ := tick_in (t := t + 1) hc (by omega) htl
  obtain ⟨c1, c2⟩ := hm.cur (by omega)
  have hq1 := c2 q (hmem q hq)
  have hMi : (t - b) / d ∈ h.drop i := by
    have : (t - b) / d ∈ h.take i ++ h.drop i := by rw [List.take_append_drop]; exact c1
    rcases List.mem_append.1 this with g | g
    · exfalso
      obtain ⟨w1, w2, _⟩ := wipe_ok hc hm.bd hm.srt hE
      have g2 : (t - b) / d ∈ lokW b l d m hs h t := by
        rw [← w2]
        have : h.take i = (h.take (lokW b l d m hs h t).length).take i := by rw [List.take_take, Nat.min_eq_left hi]
        rw [this] at g
        exact List.mem_of_mem_take g
      rw [w1, List.mem_filter] at g2
      have g3 := g2.2
      simp only [wpP, decide_eq_true_eq] at g3
      unfold spanT at g3
      omega
    · exact g
  have hM : (t - b) / d ≤ (t + 1 - b) / d ∧ (t + 1 - b) / d ≤ (t - b) / d + 1 := by
    refine ⟨Int.ediv_le_ediv (by omega) (by omega), ?_⟩
    refine Classical.byContradiction fun g => ?_
    have : ((t - b) / d + 2) * d ≤ (t + 1 - b) / d * d := Int.mul_le_mul_of_nonneg_right (by omega) (by omega)
    rw [Int.add_mul] at this
    omega
  rcases Int.lt_or_eq_of_le hM.1 with g | g
  · left; omega
  · rw [← g]
    rcases Int.lt_or_eq_of_le hq1 with g2 | g2
    · left; omega
    · exact .inr ⟨g2, hMi⟩

theorem gone_all (hc : Cal b l d m hs) (hm : Hm b l d t h) (hE : lokE b l d m hs h t = 0) : ∀ q ∈ h.drop (lokW b l d m hs h t).length, expT b l d q ≠ t := fun q hq => by
  have := (wipe_ok hc hm.bd hm.srt hE).2.2 q hq
  unfold spanT at this
  unfold expT
  omega
theorem gone_first (hc : Cal b l d m hs) (hm : Hm b l d t h) {j : Nat} (hj : j < h.length) (hx : t ≤ expT b l d (h.getD j 0)) : (∀ q ∈ h.drop (j + 1), expT b l d q ≠ t) ∧ (expT b l d (h.getD j 0) ≠ t → ∀ q ∈ h.drop j, expT b l d q ≠ t) := by
  have h1 := drop_one 0 h j hj
  have hp := hm.srt.sublist (List.drop_sublist j h)
  rw [h1, List.pairwise_cons] at hp
  have hjm := hm.bd _ (getD_mem 0 h j hj)
  have k1 : ∀ q ∈ h.drop (j + 1), expT b l d q ≠ t := fun q hq => by
    have := expT_lt hc hjm.1 (hp.1 q hq) (hm.bd q (List.mem_of_mem_drop hq)).2
    omega
  refine ⟨k1, fun hne q hq => ?_⟩
  rw [h1] at hq
  rcases List.mem_cons.1 hq with rfl | hq
  · exact hne
  · exact k1 q hq

theorem drop_first (h : List Int) (j : Nat) : (h.drop j).getD 0 0 = h.getD j 0 := by
  rw [List.getD_eq_getElem?_getD, List.getD_eq_getElem?_getD, List.getElem?_drop, Nat.add_zero]
theorem nx_done (hc : Cal b l d m hs) (hm : Hm b l d t h) (h0 : b ≤ t) (hE : lokE b l d m hs h t = 0) {j : Nat} (hj : j ≤ (lokW b l d m hs h t).length) (hn : (lokW b l d m hs h t).length ≤ j) : Hd b l d (t + 1) (h.drop j) := by
  have e : j = (lokW b l d m hs h t).length := by omega
  refine next_ok hc hm h0 hE j hj ?_
  rw [e]
  exact gone_all hc hm hE
theorem nx_none (hc : Cal b l d m hs) (hm : Hm b l d t h) (h0 : b ≤ t) (hE : lokE b l d m hs h t = 0) {j : Nat} (hj : j ≤ (lokW b l d m hs h t).length) (hn : (h.drop j).length = 0) : Hd b l d (t + 1) (h.drop j) := by
  refine next_ok hc hm h0 hE j hj fun q hq => ?_
  rw [List.eq_nil_of_length_eq_zero hn] at hq
  simp at hq
theorem held_at (hc : Cal b l d m hs) (hm : Hm b l d t h) (hE : lokE b l d m hs h t = 0) {j : Nat} (hj : j < (lokW b l d m hs h t).length) : j < h.length ∧ 0 ≤ (h.drop j).getD 0 0 ∧ (h.drop j).getD 0 0 < cntL b l d ∧ t ≤ expT b l d ((h.drop j).getD 0 0) := by
  have h1 : j < h.length := Nat.lt_of_lt_of_le hj (wipe_at hc hm.bd hm.srt hE).1
  have h2 := getD_mem 0 h j h1
  rw [drop_first]
  exact ⟨h1, (hm.bd _ h2).1, (hm.bd _ h2).2, hm.lat _ h2⟩
theorem nx_yes (hc : Cal b l d m hs) (hm : Hm b l d t h) (h0 : b ≤ t) (hE : lokE b l d m hs h t = 0) {j : Nat} (hj : j < (lokW b l d m hs h t).length) : Hd b l d (t + 1) (h.drop (j + 1)) := by
  obtain ⟨g1, _, _, g4⟩ := held_at hc hm hE hj
  rw [drop_first] at g4
  exact next_ok hc hm h0 hE (j + 1) hj (gone_first hc hm g1 g4).1
theorem nx_no (hc : Cal b l d m hs) (hm : Hm b l d t h) (h0 : b ≤ t) (hE : lokE b l d m hs h t = 0) {j : Nat} (hj : j < (lokW b l d m hs h t).length) (hx : expT b l d ((h.drop j).getD 0 0) ≠ t) : Hd b l d (t + 1) (h.drop j) := by
  obtain ⟨g1, _, _, g4⟩ := held_at hc hm hE hj
  rw [drop_first] at g4 hx
  exact next_ok hc hm h0 hE j (by omega) ((gone_first hc hm g1 g4).2 hx)
theorem same_first (hc : Cal b l d m hs) (hm : Hm b l d t h) (hE : lokE b l d m hs h t = 0) {j : Nat} (hj : j < (lokW b l d m hs h t).length) : (h.drop j).getD 0 0 = (lokW b l d m hs h t).getD j 0 := by
  rw [drop_first, (wipe_at hc hm.bd hm.srt hE).2 j hj]

def lft (n j : Nat) : Nat := n - j
theorem lokY_pos (hE : lokE b l d m hs h t = 0) (hy : 0 ≤ lokY b l d m hs h t) : lokY b l d m hs h t = perL b l d m hs t + 1 ∧ 0 ≤ perL b l d m hs t := by
  unfold lokY at hy ⊢
  rw [if_pos hE] at hy ⊢
  split
  · rename_i g; exact ⟨rfl, g.1⟩
  · rename_i g; rw [if_neg g] at hy; omega
theorem must_last (hE : lokE b l d m hs h t = 0) (hy : 0 ≤ lokY b l d m hs h t) : (h ++ [lokM b l d m hs h t]).getD ((((h ++ [lokM b l d m hs h t]).length : Nat) : Int) - 1).toNat 0 < lokY b l d m hs h t := by
  rw [(lokY_pos hE hy).1, List.length_append, show ((((h.length + [lokM b l d m hs h t].length : Nat) : Int) - 1).toNat) = h.length by simp]
  rw [List.getD_eq_getElem?_getD, List.getElem?_append_right (Nat.le_refl _)]
  simp [lokM, hE]
  omega
theorem hm_some (hc : Cal b l d m hs) (hm : Hm b l d t h) (h0 : b ≤ t) {z : List Int} (hE : lokE b l d m hs z t = 0) (hy : 0 ≤ lokY b l d m hs z t) : 0 < h.length := by
  have htl : t ≤ l := by
    refine Classical.byContradiction fun g => ?_
    have := (lokY_pos hE hy).2
    rw [tick_out (by omega)] at this; omega
  exact List.length_pos_of_mem (hm.cur htl).1
theorem held_some (hc : Cal b l d m hs) (hd : Hd b l d t h) (h0 : b ≤ t) (hE : lokE b l d m hs h t = 0) (hk : ¬ lokL b l d m hs h t) (hy : 0 ≤ lokY b l d m hs h t) : 0 < h.length := by
  have htl : t ≤ l := by
    refine Classical.byContradiction fun g => ?_
    have := (lokY_pos hE hy).2
    rw [tick_out (by omega)] at this; omega
  exact List.length_pos_of_mem ((must_no hc hd h0 hE hk).cur htl).1

/-- Where the next span has to begin. -/
def nxtL (b l d : Int) (q : Nat) : Int := if (q : Int) < cntL b l d then spanF b d q else l + 1
theorem nxt_zero (hc : Cal b l d m hs) : nxtL b l d 0 = b := by
  unfold nxtL spanF
  rw [if_pos (by have := hc.c1; simp; omega)]
  simp
theorem nxt_step (hc : Cal b l d m hs) {q : Nat} (hq : (q : Int) < cntL b l d) : nxtL b l d (q + 1) = spanT b l d q + 1 := by
  obtain ⟨z1, z2, z3⟩ := hc.qn (q := q) (by omega) hq
  unfold nxtL
  split
  · rename_i h
    obtain ⟨y1, y2, y3⟩ := hc.qn (q := ((q + 1 : Nat) : Int)) (by omega) h
    have e : ((q + 1 : Nat) : Int) * d = q * d + d := by rw [show ((q + 1 : Nat) : Int) = (q : Int) + 1 by omega, Int.add_mul, Int.one_mul]
    unfold spanF spanT
    rw [e] at y2 ⊢
    omega
  · rename_i h
    have h1 : (q : Int) = (l - b) / d := by unfold cntL at h hq; omega
    have hn := hc.n1
    have h2 := Int.mul_ediv_add_emod (l - b) d
    have h3 := Int.emod_lt_of_pos (l - b) (show 0 < d by omega)
    rw [Int.mul_comm, ← h1] at h2
    unfold spanT
    omega
theorem cov_span (hc : Cal b l d m hs) {q : Nat} (hq : (q : Int) < cntL b l d) : spanF b d q ≤ spanT b l d q ∧ expF b d q ≤ spanF b d q ∧ spanT b l d q ≤ expT b l d q ∧ perL b l d m hs (spanF b d q) = q ∧ perL b l d m hs (spanT b l d q) = q ∧ 0 ≤ spanT b l d q ∧ spanT b l d q ≤ l := by
  obtain ⟨z1, z2, z3⟩ := hc.qn (q := q) (by omega) hq
  obtain ⟨y1, y2⟩ := hc.qn1 (q := q) (by omega) hq
  have hn := hc.n1
  have hb := hc.b0
  have h1 : spanF b d q ≤ spanT b l d q := by unfold spanF spanT; omega
  exact ⟨h1, by unfold expF spanF; omega, by unfold expT spanT; omega, per_span hc (by omega) hq (by omega) h1, per_span hc (by omega) hq h1 (by omega), by unfold spanT; omega, by unfold spanT; omega⟩
end
end Go.Proofs.Ytgljcfnplkcfhaa.S29

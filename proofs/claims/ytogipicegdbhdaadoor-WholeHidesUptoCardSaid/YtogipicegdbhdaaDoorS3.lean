/- Texts of this claim: S40.P6d, S40.Ta, S40.Tp, S40.P1, S40.CPa, S40.CA0, S40.CPb, S40.CA1. -/
import Derived.Test.YtogipicegdbhdaaDoorS2
import Derived.Test.YtogipicegdbhdaaDoorS1
import Derived.Test.YtogipicegdbhdaaDoorVc9
set_option linter.unusedVariables false
set_option linter.unusedSimpArgs false
namespace Go.Proofs.YtogipicegdbhdaaDoor.S40
open Go Go.Proofs.YtogipicegdbhdaaDoor.Vc Go.Proofs
set_option maxRecDepth 100000
theorem xsL_get {l : List (Int × List UInt8 × Unit)} {k : Nat} (h : k < l.length) : (xsL l).getD k 0 = pt (l.getD k (0, [], ())).1 := by
  simp [xsL, List.getD_eq_getElem?_getD, List.getElem?_eq_getElem h]
theorem ysL_get {l : List (Int × List UInt8 × Unit)} {k i : Nat} (h : i < l.length) : (ysL l k).getD i 0 = (l.getD i (0, [], ())).2.1.getD k 0 := by
  simp [ysL, List.getD_eq_getElem?_getD, List.getElem?_eq_getElem h]
theorem tp_line {xs ys : List UInt8} (hr : rightP xs ys) {m : Nat} (h1 : 1 ≤ m) (hm : m ≤ xs.length) {d : Int} (hd : d = (m : Int) - 1) :
    ((tpL xs ys d).2 = 0 ↔ ∀ j, m ≤ j → j < xs.length → horner (xs.getD j 0) (lineL (xs.take m) (ys.take m)) = ys.getD j 0) ∧ ((tpL xs ys d).2 = 0 → (tpL xs ys d).1 = lineL (xs.take m) (ys.take m)) := by
  have hls := lineL_sz (xs.take m) (ys.take m)
  have hl : (xs.take m).length = m := by rw [List.length_take]; omega
  have hn : (xs.take m).Nodup := (right_take xs ys m hr).1
  have hlv : ∀ j, j < m → horner (xs.getD j 0) (lineL (xs.take m) (ys.take m)) = ys.getD j 0 := fun j hj => by
    have := lineL_val (xs.take m) (ys.take m) hn j (by omega)
    rwa [getD_take _ _ _ hj, getD_take _ _ _ hj] at this
  have key : (tpL xs ys d).2 = 0 → thrL xs ys = lineL (xs.take m) (ys.take m) := fun h => by
    have hdg : ¬ d < degL (thrL xs ys) := fun g => by
      unfold tpL at h
      rw [if_pos hr, if_neg (by omega), if_neg (by omega), if_pos g] at h
      exact absurd h (by decide)
    rw [thr_line xs ys hr] at hdg ⊢
    rw [← lineL_trim xs ys, ← lineL_trim (xs.take m) (ys.take m)]
    refine poly_unique (xs.take m) _ _ hn (fun x hx => ?_) (by rw [degL_sz] at hdg; omega) (by omega)
    obtain ⟨k, hk, rfl⟩ := getD_mem' (d := 0) hx
    rw [hl] at hk
    rw [getD_take _ _ _ hk, lineL_val xs ys hr.1 k (by omega), hlv k hk]
  have hone : (tpL xs ys d).2 = 0 → (tpL xs ys d).1 = thrL xs ys := fun h => by
    unfold tpL at h ⊢
    rw [if_pos hr, if_neg (by omega), if_neg (by omega)] at h ⊢
    split at h
    · exact absurd h (by decide)
    · rename_i g; rw [if_neg g]
  refine ⟨⟨fun h j hj hjl => ?_, fun h => ?_⟩, fun h => (hone h).trans (key h)⟩
  · rw [← key h, thr_line xs ys hr, lineL_val xs ys hr.1 j hjl]
  · have hth : thrL xs ys = lineL (xs.take m) (ys.take m) := by
      rw [thr_line xs ys hr, ← lineL_trim xs ys, ← lineL_trim (xs.take m) (ys.take m)]
      refine poly_unique xs _ _ hr.1 (fun x hx => ?_) (lineL_sz xs ys) (by omega)
      obtain ⟨k, hk, rfl⟩ := getD_mem' (d := 0) hx
      rw [lineL_val xs ys hr.1 k hk]
      by_cases e : k < m
      · rw [hlv k e]
      · rw [h k (by omega) hk]
    unfold tpL
    rw [if_pos hr, if_neg (by omega), if_neg (by omega), if_neg]
    rw [hth, degL_sz]
    omega
theorem pt_nat' {h : Int} (hh : knw h) : (pt h).toNat = h.toNat + 1 := by
  obtain ⟨a, b⟩ := hh
  have := pt_nat (h := h.toNat) (by omega)
  rwa [Int.toNat_of_nonneg a] at this
theorem up_lt {l : List (Int × List UInt8 × Unit)} (h : ∀ k, k + 1 < l.length → (l.getD k (0, [], ())).1 < (l.getD (k + 1) (0, [], ())).1) {i j : Nat} (hij : i < j) : j < l.length → (l.getD i (0, [], ())).1 < (l.getD j (0, [], ())).1 := by
  induction j with
  | zero => omega
  | succ j ih =>
    intro hj
    have h1 := h j hj
    by_cases e : i = j
    · rw [e]; exact h1
    · have := ih (by omega) (by omega); omega
theorem ShOk.nodup {l : List (Int × List UInt8 × Unit)} (hc : ShOk l) : (xsL l).Nodup := by
  rw [List.nodup_iff_pairwise_ne, List.pairwise_iff_getElem]
  intro i j hi hj hij
  rw [xsL_len] at hi hj
  have h1 := up_lt hc.up hij hj
  have h2 := pt_nat' (hc.house _ (getD_mem (0, [], ()) l i hi))
  have h3 := pt_nat' (hc.house _ (getD_mem (0, [], ()) l j hj))
  have h4 := hc.house _ (getD_mem (0, [], ()) l i hi)
  intro e
  have e1 : (xsL l)[i] = pt (l.getD i (0, [], ())).1 := by rw [← xsL_get hi]; simp [List.getD_eq_getElem?_getD, hi, xsL_len]
  have e2 : (xsL l)[j] = pt (l.getD j (0, [], ())).1 := by rw [← xsL_get hj]; simp [List.getD_eq_getElem?_getD, hj, xsL_len]
  rw [e1, e2] at e
  have := congrArg UInt8.toNat e
  unfold knw at h4
  omega
theorem ShOk.right {l : List (Int × List UInt8 × Unit)} (hc : ShOk l) (k : Nat) : rightP (xsL l) (ysL l k) := ⟨hc.nodup, by rw [xsL_len, ysL_len]⟩
theorem inc_len : ∀ (l : List Int) (a b : Int), a ≤ b → (∀ x ∈ l, a ≤ x ∧ x < b) → l.Pairwise (· < ·) → (l.length : Int) ≤ b - a
  | [], a, b, h, _, _ => by simp; omega
  | x :: l, a, b, _, hx, hp => by
    rw [List.pairwise_cons] at hp
    have h1 := hx x (by simp)
    have := inc_len l (x + 1) b (by omega) (fun y hy => by have := hx y (by simp [hy]); have := hp.1 y hy; omega) hp.2
    rw [List.length_cons]; omega
theorem chk_of {l : List (Int × List UInt8 × Unit)} {n : Nat} (h1 : ∀ s ∈ l, knw s.1 ∧ s.2.1.length = n) (hn : n ≤ 4096) (hp : l.Pairwise fun a b => a.1 < b.1) : chkE l = 0 := by
  have hl : ((l.map (·.1)).length : Int) ≤ 12 - 0 := inc_len _ 0 12 (by omega) (fun x hx => by obtain ⟨s, hs, rfl⟩ := List.mem_map.1 hx; exact (h1 s hs).1) (List.pairwise_map.2 hp)
  rw [List.length_map] at hl
  have ha : ¬ l.all smB = false := fun e => by
    have : l.all smB = true := List.all_eq_true.2 fun s hs => decide_eq_true (by have := (h1 s hs).2; omega)
    rw [e] at this; cases this
  refine chk0' (by omega) ha (List.all_eq_true.2 fun k hk => decide_eq_true ?_)
  have hk := List.mem_range.1 hk
  have hm := h1 _ (getD_mem (0, [], ()) l k hk)
  have h0 := h1 _ (getD_mem (0, [], ()) l 0 (by omega))
  refine ⟨hm.1, ?_, by unfold lnS; omega⟩
  rcases Nat.eq_zero_or_pos k with e | e
  · exact .inl e
  · right
    have := List.pairwise_iff_getElem.1 hp (k - 1) k (by omega) hk (by omega)
    simpa [List.getD_eq_getElem?_getD, hk, show k - 1 < l.length by omega] using this
theorem ShOk.pair {l : List (Int × List UInt8 × Unit)} (hc : ShOk l) : l.Pairwise fun a b => a.1 < b.1 := by
  rw [List.pairwise_iff_getElem]
  intro i j hi hj hij
  have := up_lt hc.up hij hj
  simpa [List.getD_eq_getElem?_getD, hi, hj] using this
theorem chk_sub {l p : List (Int × List UInt8 × Unit)} (hc : ShOk l) (h : p.Sublist l) : chkE p = 0 :=
  chk_of (n := lnS l) (fun s hs => ⟨hc.house s (h.subset hs), hc.bytes s (h.subset hs)⟩) hc.max (hc.pair.sublist h)
theorem ln_sub {l p : List (Int × List UInt8 × Unit)} (hc : ShOk l) (h : p.Sublist l) (hp : 0 < p.length) : lnS p = lnS l := hc.bytes _ (h.subset (getD_mem (0, [], ()) p 0 hp))
theorem poly_line {l : List (Int × List UInt8 × Unit)} (hc : ShOk l) {m k : Nat} (h1 : 1 ≤ m) (h2 : m ≤ l.length) {p : List UInt8} (hz : sz p ≤ m) (hv : ∀ s ∈ l, s.2.1.getD k 0 = horner (pt s.1) p) :
    (tpL (xsL l) (ysL l k) ((m : Int) - 1)).2 = 0 ∧ ∀ x, horner x (tpL (xsL l) (ysL l k) ((m : Int) - 1)).1 = horner x p := by
  have ht := tp_line (hc.right k) h1 (by rw [xsL_len]; exact h2) (d := (m : Int) - 1) rfl
  have hr := right_take (xsL l) (ysL l k) m (hc.right k)
  have hl : ((xsL l).take m).length = m := by rw [List.length_take, xsL_len]; omega
  have hval : ∀ j, j < l.length → horner ((xsL l).getD j 0) p = (ysL l k).getD j 0 := fun j hj => by
    rw [xsL_get hj, ysL_get hj, hv _ (getD_mem (0, [], ()) l j hj)]
  have hline : trimL (lineL ((xsL l).take m) ((ysL l k).take m)) = trimL p := by
    refine poly_unique ((xsL l).take m) _ _ hr.1 (fun x hx => ?_) (by have := lineL_sz ((xsL l).take m) ((ysL l k).take m); omega) (by omega)
    obtain ⟨j, hj, rfl⟩ := getD_mem' (d := 0) hx
    rw [hl] at hj
    rw [lineL_val _ _ hr.1 j (by omega), getD_take _ _ _ hj, getD_take _ _ _ hj, hval j (by omega)]
  have hh : ∀ x, horner x (lineL ((xsL l).take m) ((ysL l k).take m)) = horner x p := fun x => by rw [← horner_trim x (lineL _ _), hline, horner_trim]
  have h0 : (tpL (xsL l) (ysL l k) ((m : Int) - 1)).2 = 0 := ht.1.2 fun j _ hj => by rw [xsL_len] at hj; rw [hh, hval j hj]
  exact ⟨h0, fun x => by rw [ht.2 h0, hh]⟩
theorem join_poly {l : List (Int × List UInt8 × Unit)} (hc : ShOk l) {nd : Int} (h1 : 1 ≤ nd) (h2 : nd ≤ (l.length : Int)) {P : Nat → List UInt8} (hP : ∀ k, k < lnS l → sz (P k) ≤ nd.toNat ∧ ∀ s ∈ l, s.2.1.getD k 0 = horner (pt s.1) (P k)) (x : UInt8) :
    jnE l nd = 0 ∧ jnS l nd x = (List.range (lnS l)).map fun k => horner x (P k) := by
  have key : ∀ k, k < lnS l → (tpL (xsL l) (ysL l k) (nd - 1)).2 = 0 ∧ ∀ x, horner x (tpL (xsL l) (ysL l k) (nd - 1)).1 = horner x (P k) := fun k hk => by
    have := poly_line hc (m := nd.toNat) (k := k) (by omega) (by omega) (hP k hk).1 (hP k hk).2
    rwa [Int.toNat_of_nonneg (by omega)] at this
  have e := jn0 (l := l) (nd := nd) (by omega) fun k hk => (key k hk).1
  refine ⟨e, ?_⟩
  rw [jnS0 e]
  unfold jnK
  apply List.map_congr_left
  intro k hk
  exact (key k (List.mem_range.1 hk)).2 x
structure Spl (sec : List UInt8) (nd : Int) (hs : List Int) (nz : List UInt8) : Prop where
  len : sec.length ≤ 4096
  n1 : 1 ≤ nd
  n12 : nd ≤ 12
  hl : nd ≤ (hs.length : Int)
  ok : hsOk hs = true
  nz : (nz.length : Int) = (sec.length : Int) * (nd - 1)
theorem spl0 {sec : List UInt8} {nd : Int} {hs : List Int} {nz : List UInt8} (h : splE sec nd hs nz = 0) : Spl sec nd hs nz := by
  unfold splE at h
  split at h
  · cases h
  · split at h
    · cases h
    · split at h
      · cases h
      · split at h
        · cases h
        · rename_i h4
          split at h
          · exact ⟨by omega, by omega, by omega, by omega, by simpa using h4, by assumption⟩
          · cases h
theorem Spl.e {sec : List UInt8} {nd : Int} {hs : List Int} {nz : List UInt8} (h : Spl sec nd hs nz) : splE sec nd hs nz = 0 := by
  unfold splE
  rw [if_neg (by have := h.len; omega), if_neg (by have := h.n1; have := h.n12; omega), if_neg (by have := h.hl; omega), if_neg (by rw [h.ok]; decide), if_pos h.nz]
theorem Spl.l {sec : List UInt8} {nd : Int} {hs : List Int} {nz : List UInt8} (h : Spl sec nd hs nz) : splL sec nd hs nz = hs.map (shS sec nd nz) := if_pos h.e
theorem Spl.llen {sec : List UInt8} {nd : Int} {hs : List Int} {nz : List UInt8} (h : Spl sec nd hs nz) : (splL sec nd hs nz).length = hs.length := by rw [h.l, List.length_map]
theorem Spl.nzn {sec : List UInt8} {nd : Int} {hs : List Int} {nz : List UInt8} (h : Spl sec nd hs nz) : nz.length = sec.length * (nd - 1).toNat := by
  have h1 := h.nz; have h2 := h.n1
  exact Int.ofNat_inj.1 (by rw [Int.natCast_mul, Int.toNat_of_nonneg (by omega)]; exact h1)
theorem hs_pair {hs : List Int} (h : hsOk hs = true) : hs.Pairwise (· < ·) := by
  have h1 : ∀ k, k + 1 < hs.length → hs.getD k 0 < hs.getD (k + 1) 0 := fun k hk => by
    have := (hs_get h hk).2
    rcases this with e | e
    · omega
    · simpa using e
  have h2 : ∀ i j, i < j → j < hs.length → hs.getD i 0 < hs.getD j 0 := fun i j hij => by
    induction j with
    | zero => omega
    | succ j ih =>
      intro hj
      have h3 := h1 j hj
      by_cases e : i = j
      · rw [e]; exact h3
      · have := ih (by omega) (by omega); omega
  rw [List.pairwise_iff_getElem]
  intro i j hi hj hij
  simpa [List.getD_eq_getElem?_getD, hi, hj] using h2 i j hij hj
theorem hs_knw {hs : List Int} (h : hsOk hs = true) : ∀ x ∈ hs, knw x := fun x hx => by
  obtain ⟨k, hk, rfl⟩ := getD_mem' (d := 0) hx
  exact (hs_get h hk).1
theorem hs_12 {hs : List Int} (h : hsOk hs = true) : hs.length ≤ 12 := by
  have := inc_len hs 0 12 (by omega) (fun x hx => hs_knw h x hx) (hs_pair h)
  omega
def polK (sec nz : List UInt8) (nd : Int) (k : Nat) : List UInt8 := sec.getD k 0 :: cfs nz sec.length (nd - 1).toNat k
theorem polK_sz (sec nz : List UInt8) {nd : Int} (h : 1 ≤ nd) (k : Nat) : sz (polK sec nz nd k) ≤ nd.toNat := by
  have := sz_len (polK sec nz nd k)
  unfold polK at this ⊢
  rw [List.length_cons, cfs_len] at this
  omega
theorem shS_get (sec nz : List UInt8) (nd h : Int) {k : Nat} (hk : k < sec.length) : (shS sec nd nz h).2.1.getD k 0 = horner (pt h) (polK sec nz nd k) := map_range_get hk
theorem Spl.mem {sec : List UInt8} {nd : Int} {hs : List Int} {nz : List UInt8} (h : Spl sec nd hs nz) {s : (Int × List UInt8 × Unit)} (hs' : s ∈ splL sec nd hs nz) : knw s.1 ∧ s.2.1.length = sec.length ∧ ∀ k, k < sec.length → s.2.1.getD k 0 = horner (pt s.1) (polK sec nz nd k) := by
  rw [h.l] at hs'
  obtain ⟨x, hx, rfl⟩ := List.mem_map.1 hs'
  exact ⟨hs_knw h.ok x hx, shB_len _ _ _ _, fun k hk => shS_get sec nz nd x hk⟩
theorem Spl.chk {sec : List UInt8} {nd : Int} {hs : List Int} {nz : List UInt8} (h : Spl sec nd hs nz) : chkE (splL sec nd hs nz) = 0 := by
  refine chk_of (n := sec.length) (fun s hs' => ⟨(h.mem hs').1, (h.mem hs').2.1⟩) h.len ?_
  rw [h.l]
  exact List.pairwise_map.2 (hs_pair h.ok)
theorem horner_z (c : UInt8) (p : List UInt8) : horner 0 (c :: p) = c := by
  rw [horner, mul_zero']; simp
theorem range_self (s : List UInt8) : (List.range s.length).map (fun k => s.getD k 0) = s := by
  have := range_get 0 (fun x : UInt8 => x) s
  simpa using this
end Go.Proofs.YtogipicegdbhdaaDoor.S40

namespace Go.Proofs.YtogipicegdbhdaaDoor.S40
open Go Go.Proofs.YtogipicegdbhdaaDoor.Vc Go.Proofs
set_option maxRecDepth 100000

/-! ### noise -/
def nzF (s : List UInt8) (a k : Nat) : UInt8 := if 0 < s.length then s.getD ((a + k) % s.length) 0 else 0
def nzL (s : List UInt8) (a n : Nat) : List UInt8 := (List.range n).map (nzF s a)
theorem nzL_len (s : List UInt8) (a n : Nat) : (nzL s a n).length = n := by simp [nzL]
theorem nz_skip {s : List UInt8} {a n k : Nat} (h : ¬ 0 < s.length) : fillF (nzF s a) n (k + 1) = fillF (nzF s a) n k := by
  apply List.map_congr_left
  intro i hi
  by_cases e : i = k
  · subst e
    rw [if_pos (by omega), if_neg (by omega), nzF, if_neg h]
  · by_cases g : i < k
    · rw [if_pos g, if_pos (by omega)]
    · rw [if_neg g, if_neg (by omega)]
theorem nz_is {s : List UInt8} {a k : Nat} (h : 0 < s.length) : nzF s a k = s.getD ((a + k) % s.length) 0 := if_pos h

/-! ### deals that are made are right -/
theorem pos_lt : ∀ m, m < 12 → ∀ a, a < m → ∀ b, b < m → posT m a b < m * (m + 1) / 2 ∧ posT m a b = posT m b a := by decide +kernel
theorem mkD_get {m z : Nat} {s : List UInt8} {a b : Nat} (ha : a < m) (hb : b < m) : ((mkD m z s).getD a []).getD b [] = (dn z (posT m a b) s).take z := by
  simp [mkD, List.getD_eq_getElem?_getD, ha, hb]
theorem mkD_row {m z : Nat} {s : List UInt8} {l : Rw} (h : l ∈ mkD m z s) : ∃ a, a < m ∧ l = (List.range m).map fun b => (dn z (posT m a b) s).take z := by
  obtain ⟨a, ha, rfl⟩ := List.mem_map.1 h
  exact ⟨a, List.mem_range.1 ha, rfl⟩
theorem mkD_len (m z : Nat) (s : List UInt8) : (mkD m z s).length = m := by simp [mkD]
theorem mkD_str {m z : Nat} {s : List UInt8} (hm : m < 12) (hl : s.length = z * (m * (m + 1) / 2)) {a b : Nat} (ha : a < m) (hb : b < m) : ((dn z (posT m a b) s).take z).length = z := by
  rw [List.length_take, dn_len, hl]
  have h := (pos_lt m hm a ha b hb).1
  generalize posT m a b = p at h
  generalize m * (m + 1) / 2 = K at h
  have h2 : (p + 1) * z ≤ K * z := Nat.mul_le_mul_right z h
  rw [Nat.succ_mul] at h2
  rw [Nat.mul_comm z K]
  omega
theorem mk_deal {nd sz : Int} {s : List UInt8} (h : mkE nd sz s = 0) : chkD nd (mkC nd sz s) = 0 ∧ n00 (mkC nd sz s) = sz.toNat := by
  have hC : mkC nd sz s = mkD (nd - 1).toNat sz.toNat s := if_pos h
  unfold mkE at h
  split at h
  · cases h
  · rename_i h1
    split at h
    · rename_i h2
      rw [hC]
      generalize hm : (nd - 1).toNat = m
      have hm1 : 1 ≤ m ∧ m < 12 := by omega
      have hnd : nd = (m : Int) + 1 := by omega
      have hl : s.length = sz.toNat * (m * (m + 1) / 2) := by
        have e : (nd - 1) * nd / 2 = ((m * (m + 1) / 2 : Nat) : Int) := by
          rw [hnd, show (m : Int) + 1 - 1 = (m : Int) by omega, Int.natCast_ediv, Int.natCast_mul, Int.natCast_add]; rfl
        rw [e] at h2
        have : ((s.length : Nat) : Int) = ((sz.toNat * (m * (m + 1) / 2) : Nat) : Int) := by rw [h2, Int.natCast_mul, Int.toNat_of_nonneg (by omega)]
        exact Int.ofNat_inj.1 this
      have h00 : n00 (mkD m sz.toNat s) = sz.toNat := by
        show (((mkD m sz.toNat s).getD 0 []).getD 0 []).length = _
        rw [mkD_get (by omega) (by omega), mkD_str hm1.2 hl (by omega) (by omega)]
      refine ⟨?_, h00⟩
      unfold chkD
      rw [if_neg (by omega), if_neg (by rw [mkD_len]; omega), if_neg, if_neg (by omega), if_neg]
      · intro e
        have : symB (mkD m sz.toNat s) (mkD m sz.toNat s).length = true := by
          rw [mkD_len]
          refine List.all_eq_true.2 fun a ha => List.all_eq_true.2 fun b hb => decide_eq_true ?_
          have ha := List.mem_range.1 ha
          have hb := List.mem_range.1 hb
          rw [mkD_get ha (by omega), mkD_get (by omega) ha, (pos_lt m hm1.2 a ha b (by omega)).2]
        rw [this] at e; cases e
      · intro e
        have : (mkD m sz.toNat s).all (lenB (mkD m sz.toNat s)) = true := by
          refine List.all_eq_true.2 fun l hl' => ?_
          obtain ⟨a, ha, rfl⟩ := mkD_row hl'
          refine lenB_yes (by rw [mkD_len]; simp) ?_ (List.all_eq_true.2 fun x hx => decide_eq_true ?_)
          · rw [mkD_len]
            simp [mkD, List.getD_eq_getElem?_getD, show 0 < m by omega]
          · obtain ⟨b, hb, rfl⟩ := List.mem_map.1 hx
            rw [h00, mkD_str hm1.2 hl ha (List.mem_range.1 hb)]
        rw [this] at e; cases e
    · cases h

/-! ### shares of a key -/
structure Fine (key : List UInt8) (nd : Int) (hs : List Int) (l : List (Int × List UInt8 × Unit)) : Prop where
  hm : l.map (·.1) = hs
  len : ∀ s ∈ l, s.2.1.length = key.length
  pol : ∀ k, k < key.length → ∃ p : List UInt8, p.length ≤ nd.toNat ∧ horner 0 p = key.getD k 0 ∧ ∀ s ∈ l, s.2.1.getD k 0 = horner (pt s.1) p
theorem fine_spl {key : List UInt8} {nd : Int} {hs : List Int} {nz : List UInt8} (h : Spl key nd hs nz) : Fine key nd hs (splL key nd hs nz) where
  hm := by
    rw [h.l, List.map_map]
    show hs.map (fun x => x) = hs
    exact List.map_id _
  len s hs' := (h.mem hs').2.1
  pol k hk := ⟨polK key nz nd k, by
    have := h.n1
    unfold polK
    rw [List.length_cons, cfs_len]
    omega, horner_z _ _, fun s hs' => (h.mem hs').2.2 k hk⟩
def upS (nd : Int) (cf : List Rw) (s : Int × List UInt8 × Unit) : Int × List UInt8 × Unit := (updH s.1 s.2.1 [rowL nd cf s.1], updS s.1 s.2.1 [rowL nd cf s.1], ())
theorem up_one {nd : Int} {cf : List Rw} (hc : chkD nd cf = 0) {s : Int × List UInt8 × Unit} (hk : knw s.1) (hn : s.2.1.length = n00 cf) :
    rowE nd cf s.1 = 0 ∧ updE s.1 s.2.1 [rowL nd cf s.1] = 0 ∧ (upS nd cf s).1 = s.1 ∧ (upS nd cf s).2.1.length = s.2.1.length ∧
    ∀ k p, k < n00 cf → s.2.1.getD k 0 = horner (pt s.1) p → (upS nd cf s).2.1.getD k 0 = horner (pt s.1) (xorL p (0 :: colL (cf.getD 0 []) k)) := by
  have D := chkD0 hc
  have n2 := D.n2; have n12 := D.n12; have n3 := D.len; have nm := D.max
  have e1 : rowE nd cf s.1 = 0 := by unfold rowE; rw [if_pos hc, if_pos hk]
  have e2 : rowL nd cf s.1 = rowD cf s.1 := if_pos e1
  have hm := getD_mem [] cf 0 (by omega)
  have hr0 : (rowD cf s.1).getD 0 [] = atL (cf.getD 0 []) (pt s.1) := row_get D _ 0 (by omega)
  have hrl := D.rows _ hm
  have hrs := D.strs _ hm
  have hal : (atL (cf.getD 0 []) (pt s.1)).length = n00 cf := at_len _ (by omega) hrs
  have hrow := row_len D s.1
  have hdl : (rowD cf s.1).length = cf.length := List.length_map ..
  have hn0 : n0 (rowD cf s.1) = n00 cf := by unfold n0; rw [hr0, hal]
  have hright : rightB (rowD cf s.1) = true := by
    rw [right_all (by omega) (by omega)]
    exact List.all_eq_true.2 fun x hx => by rw [hrow x hx, hn0, decide_eq_true rfl, decide_eq_true nm]; rfl
  have e3 : updE s.1 s.2.1 [rowD cf s.1] = 0 := by
    unfold updE
    rw [if_pos hk, if_pos (by omega), if_pos]
    rw [List.all_cons, updOk_yes hright (by omega)]; rfl
  have e4 : updB s.1 s.2.1 [rowD cf s.1] = sumB s.2.1 (scaleB (pt s.1) (atL (cf.getD 0 []) (pt s.1))) := by rw [← hr0]; rfl
  refine ⟨e1, by rw [e2]; exact e3, ?_, ?_, fun k p hk' hp => ?_⟩
  · show updH s.1 s.2.1 [rowL nd cf s.1] = s.1
    rw [e2]; exact if_pos e3
  · show (updS s.1 s.2.1 [rowL nd cf s.1]).length = s.2.1.length
    rw [e2, updS, if_pos e3, e4, sum_len, scale_len, hal]; omega
  · show (updS s.1 s.2.1 [rowL nd cf s.1]).getD k 0 = _
    rw [e2, updS, if_pos e3, e4, sum_get (by rw [scale_len, hal, hn]) (by omega), hp, scale_get (by omega), at_get hk' _ (by omega) hrs, horner_xor]
    show _ = _ ^^^ (mulL (horner (pt s.1) (colL (cf.getD 0 []) k)) (pt s.1) ^^^ 0)
    rw [mul_comm' (horner _ _)]
    simp
theorem hor_up (p q : List UInt8) : horner 0 (xorL p (0 :: q)) = horner 0 p := by
  rw [horner_xor, horner_z]; simp
theorem fine_up {key : List UInt8} {nd : Int} {hs : List Int} {l : List (Int × List UInt8 × Unit)} (F : Fine key nd hs l) (hk : ∀ x ∈ hs, knw x) {cf : List Rw} (hc : chkD nd cf = 0) (hn : n00 cf = key.length) : Fine key nd hs (l.map (upS nd cf)) := by
  have K : ∀ s ∈ l, knw s.1 := fun s hs' => hk _ (by rw [← F.hm]; exact List.mem_map.2 ⟨s, hs', rfl⟩)
  have U := fun s (hs' : s ∈ l) => up_one hc (K s hs') (by rw [F.len s hs', hn])
  have D := chkD0 hc
  have n3 := D.len; have n2 := D.n2
  refine ⟨?_, fun x hx => ?_, fun k hk' => ?_⟩
  · rw [List.map_map, ← F.hm]
    exact List.map_congr_left fun s hs' => (U s hs').2.2.1
  · obtain ⟨s, hs', rfl⟩ := List.mem_map.1 hx
    rw [(U s hs').2.2.2.1]; exact F.len s hs'
  · obtain ⟨p, h1, h2, h3⟩ := F.pol k hk'
    refine ⟨xorL p (0 :: colL (cf.getD 0 []) k), ?_, by rw [hor_up, h2], fun x hx => ?_⟩
    · have hrl := D.rows _ (getD_mem [] cf 0 (by omega))
      rw [xorL_length, List.length_cons, colL_len]; omega
    · obtain ⟨s, hs', rfl⟩ := List.mem_map.1 hx
      rw [(U s hs').2.2.1]
      exact (U s hs').2.2.2.2 k p (by omega) (h3 s hs')
structure Ready (key : List UInt8) (nd : Int) (hs : List Int) (l : List (Int × List UInt8 × Unit)) : Prop extends Fine key nd hs l where
  ok : hsOk hs = true
  n1 : 1 ≤ nd
  n12 : nd ≤ 12
  k4 : key.length ≤ 4096
theorem Ready.chk {key : List UInt8} {nd : Int} {hs : List Int} {l : List (Int × List UInt8 × Unit)} (h : Ready key nd hs l) : chkE l = 0 := by
  refine chk_of (n := key.length) (fun s hs' => ⟨hs_knw h.ok _ (by rw [← h.hm]; exact List.mem_map.2 ⟨s, hs', rfl⟩), h.len s hs'⟩) h.k4 ?_
  have := hs_pair h.ok
  rw [← h.hm] at this
  exact List.pairwise_map.1 this
theorem Ready.part {key : List UInt8} {nd : Int} {hs : List Int} {l : List (Int × List UInt8 × Unit)} (h : Ready key nd hs l) {p : List (Int × List UInt8 × Unit)} (hp : p.Sublist l) :
    rdE p nd = 0 ∧ (¬ (p.length : Int) < nd → jnE p nd = 0 ∧ jnS p nd 0 = key) := by
  have hc := chk0 h.chk
  have hcp := chk_sub hc hp
  have h1 := h.n1; have h2 := h.n12
  refine ⟨by unfold rdE; rw [if_pos hcp, if_neg (by omega)], fun e => ?_⟩
  have hln : lnS p = key.length := h.len _ (hp.subset (getD_mem (0, [], ()) p 0 (by omega)))
  have hP : ∀ k, ∃ q : List UInt8, k < key.length → q.length ≤ nd.toNat ∧ horner 0 q = key.getD k 0 ∧ ∀ s ∈ l, s.2.1.getD k 0 = horner (pt s.1) q := fun k => by
    by_cases g : k < key.length
    · obtain ⟨q, hq⟩ := h.pol k g; exact ⟨q, fun _ => hq⟩
    · exact ⟨[], fun g' => absurd g' g⟩
  have key1 := join_poly (chk0 hcp) h1 (by omega) (P := fun k => Classical.choose (hP k)) (fun k hk => by
    obtain ⟨a, b, c⟩ := Classical.choose_spec (hP k) (by omega)
    exact ⟨Nat.le_trans (sz_len _) a, fun s hs' => c s (hp.subset hs')⟩) 0
  refine ⟨key1.1, ?_⟩
  rw [key1.2, hln]
  refine Eq.trans ?_ (range_self key)
  apply List.map_congr_left
  intro k hk
  exact (Classical.choose_spec (hP k) (List.mem_range.1 hk)).2.1
theorem Ready.few {key : List UInt8} {nd : Int} {hs : List Int} {l : List (Int × List UInt8 × Unit)} (h : Ready key nd hs l) {p : List (Int × List UInt8 × Unit)} (hp : p.Sublist l) (hl : ¬ nd ≤ (p.length : Int)) {o : List UInt8} (ho : o.length = key.length) :
    ftP p nd o ∧ ftN p nd o = (nd - 1 - (p.length : Int)) * (key.length : Int) := by
  have hr := (h.part hp).1
  have hk4 := h.k4
  have hln : p.length = 0 ∨ lnS p = o.length := by
    rcases Nat.eq_zero_or_pos p.length with g | g
    · exact .inl g
    · exact .inr (by rw [ho]; exact h.len _ (hp.subset (getD_mem (0, [], ()) p 0 g)))
  refine ⟨⟨hr, by omega, hln, .inl (by omega)⟩, ?_⟩
  unfold ftN
  rw [if_pos ⟨hr, by omega, hln, by omega⟩, ho]
theorem Ready.many {key : List UInt8} {nd : Int} {hs : List Int} {l : List (Int × List UInt8 × Unit)} (h : Ready key nd hs l) {p : List (Int × List UInt8 × Unit)} (hp : p.Sublist l) (hl : nd ≤ (p.length : Int)) {o : List UInt8} (ho : o.length = key.length) :
    (ftP p nd o ↔ o = key) ∧ ftN p nd o = 0 := by
  obtain ⟨hr, hj⟩ := h.part hp
  obtain ⟨j1, j2⟩ := hj (by omega)
  have hk4 := h.k4; have h1 := h.n1
  have hln : p.length = 0 ∨ lnS p = o.length := .inr (by rw [ho]; exact h.len _ (hp.subset (getD_mem (0, [], ()) p 0 (by omega))))
  refine ⟨⟨fun g => ?_, fun g => ⟨hr, by omega, hln, .inr ⟨j1, by rw [j2, g]⟩⟩⟩, ?_⟩
  · have := (g.2.2.2.resolve_left (by omega)).2
    rw [j2] at this; exact this.symm
  · unfold ftN
    rw [if_neg (fun g => by omega)]
theorem Ready.join {key : List UInt8} {nd : Int} {hs : List Int} {l : List (Int × List UInt8 × Unit)} (h : Ready key nd hs l) {p : List (Int × List UInt8 × Unit)} (hp : p.Sublist l) (hl : nd ≤ (p.length : Int)) : joE p nd = 0 ∧ joS p nd 0 = key := by
  obtain ⟨hr, hj⟩ := h.part hp
  obtain ⟨j1, j2⟩ := hj (by omega)
  exact ⟨by unfold joE; rw [if_pos hr, j1], by unfold joS; rw [if_pos hr, j2]⟩
theorem Ready.up {key : List UInt8} {nd : Int} {hs : List Int} {l : List (Int × List UInt8 × Unit)} (h : Ready key nd hs l) {cf : List Rw} (hc : chkD nd cf = 0) (hn : n00 cf = key.length) : Ready key nd hs (l.map (upS nd cf)) :=
  ⟨fine_up h.toFine (hs_knw h.ok) hc hn, h.ok, h.n1, h.n12, h.k4⟩
end Go.Proofs.YtogipicegdbhdaaDoor.S40

namespace Go.Proofs.YtogipicegdbhdaaDoor.S40
open Go Go.Proofs.YtogipicegdbhdaaDoor.Vc Go.Proofs
set_option maxRecDepth 100000

/-! ### covers -/
def covE (s p : List UInt8) : Int := if s.length = p.length then 0 else 1
def covS (s p : List UInt8) : List UInt8 := if s.length = p.length then sumB s p else []
end Go.Proofs.YtogipicegdbhdaaDoor.S40

namespace Go.Proofs.YtogipicegdbhdaaDoor.S40
open Go Go.Proofs.YtogipicegdbhdaaDoor.Vc Go.Proofs
set_option maxRecDepth 100000
set_option linter.unusedVariables false

def sCov : List V → Option (Prop × V × List Blk)
  | [.str s, .str p] => some (s.length ≤ 1048576 ∧ p.length ≤ 1048576, .tup [.str (covS s p), .int .i64 (covE s p)], [])
  | _ => none
set_option maxHeartbeats 1000000 in
theorem bCov (s : List UInt8) (p : List UInt8) (hp0 : s.length ≤ 1048576) (hp1 : p.length ≤ 1048576) : bodyP (En CZFit tys G6 QZCo2) Tryd.f9 [.k, .k] [.str s, .str p] (.tup [.str (covS s p), .int .i64 (covE s p)]) [] := by
  refine ⟨fun h0 => ?_, fun h0 => ?_⟩
  · replace h0 : (s.length : Int) ≠ (p.length : Int) := h0
    rw [show covS s p = [] from if_neg (by omega), show covE s p = 1 from if_neg (by omega)]
    exact ⟨rfl, rfl, rfl, rfl⟩
  · replace h0 : ¬ ((s.length : Int) ≠ (p.length : Int)) := h0
    refine ⟨⟨by show s.length ≤ 1000000000; first | omega | assumption, by show p.length ≤ 1000000000; first | omega | assumption⟩, ?_⟩
    rw [show covS s p = sumB s p from if_pos (by omega), show covE s p = 0 from if_pos (by omega)]
    exact ⟨rfl, rfl, rfl, rfl⟩
def CCov : List (Nat × Con) := (9, pureC [.v .str, .v .str] sCov) :: CZFit
theorem kCov : Known Tryd.prog (En CCov tys G6 QZCo2) := kZFit.add Tryd.func9 Tryd.call9 [.k, .k] fun ds p v bs h hp => by
  unfold sCov at h
  split at h <;> simp only [Option.some.injEq, Prod.mk.injEq, reduceCtorEq] at h
  obtain ⟨rfl, rfl, rfl⟩ := h
  exact bCov _ _ hp.1 hp.2
def sAgr2 : List V → Option (Prop × V × List Blk)
  | [.sl false .str cv, .sl false .str ct, .sl false (.int .i64) kn] => some (cv.length = 1 ∧ ct.length = 1 ∧ (cv.getD 0 []).length = kn.length ∧ (ct.getD 0 []).length = kn.length ∧ (∀ x ∈ kn, x = -1) ∧ kn.length ≤ 1048576, .tup [.int .i64 0, .b True], [])
  | _ => none
set_option maxHeartbeats 1000000 in
theorem bAgr2 (cv : List (List UInt8)) (ct : List (List UInt8)) (kn : List Int) (hp0 : cv.length = 1) (hp1 : ct.length = 1) (hp2 : (cv.getD 0 []).length = kn.length) (hp3 : (ct.getD 0 []).length = kn.length) (hp4 : (∀ x ∈ kn, x = -1)) (hp5 : kn.length ≤ 1048576) : bodyP (En CCov tys G6 QZCo2) Tryd.f10 [.k, .k] [.sl false .str cv, .sl false .str ct, .sl false (.int .i64) kn] (.tup [.int .i64 0, .b True]) [] := by
  refine ⟨fun h0 => ?_, fun h0 => ?_⟩
  · replace h0 : (cv.length : Int) ≠ (ct.length : Int) := h0
    omega
  · replace h0 : ¬ ((cv.length : Int) ≠ (ct.length : Int)) := h0
    refine ⟨0, [(0, .k), (1, .k), (2, .k), (22, .k), (23, .k), (24, .k)], fun nM vs H => ∃ (k : Nat), k ≤ cv.length ∧ nM = cv.length - k ∧ vs = [.sl false .str cv, .sl false .str ct, .sl false (.int .i64) kn, .sl false .str cv, .int .i64 (cv.length : Int), .int .i64 (k : Int)] ∧ H = [], ⟨rfl, cv.length, 0, by omega, by omega, rfl, rfl⟩, ?_⟩
    rintro nM vs H ⟨k, hc1_0, rfl, rfl, rfl⟩
    refine ⟨fun h1 => ?_, fun h1 => ?_⟩
    · replace h1 : (k : Int) < (cv.length : Int) := h1
      have e1 : (cv.getD k []).length = kn.length := by rw [show k = 0 by omega]; exact hp2
      have e2 : (ct.getD k []).length = kn.length := by rw [show k = 0 by omega]; exact hp3
      refine ⟨⟨by show (0 : Int) ≤ (k : Int); omega, by show (k : Int) < (cv.length : Int); omega⟩, fun h2 => ?_, fun h2 => ?_⟩
      · replace h2 : ¬ ((((cv.getD k []).length : Nat) : Int) ≠ (kn.length : Int)) := h2
        refine ⟨⟨by show (0 : Int) ≤ (k : Int); omega, by show (k : Int) < (ct.length : Int); omega⟩, fun h3 => ?_, fun h3 => ?_⟩
        · replace h3 : (((ct.getD k []).length : Nat) : Int) ≠ (kn.length : Int) := h3
          omega
        · replace h3 : ¬ ((((ct.getD k []).length : Nat) : Int) ≠ (kn.length : Int)) := h3
          refine ⟨⟨by show (-9223372036854775808 : Int) ≤ ((k : Int) + 1); omega, by show ((k : Int) + 1) ≤ (9223372036854775807 : Int); omega⟩, ?_⟩
          exact ⟨rfl, cv.length - (k + 1), by omega, k + 1, by omega, rfl, rfl, rfl⟩
      · replace h2 : (((cv.getD k []).length : Nat) : Int) ≠ (kn.length : Int) := h2
        omega
    · replace h1 : ¬ ((k : Int) < (cv.length : Int)) := h1
      refine ⟨0, [(0, .k), (1, .k), (10, .k), (11, .k), (45, .k), (46, .k), (47, .k)], fun nM vs H => ∃ (i : Nat), i ≤ kn.length ∧ nM = kn.length - i ∧ vs = [.sl false .str cv, .sl false .str ct, .int .i64 0, .b (true = true), .sl false (.int .i64) kn, .int .i64 (kn.length : Int), .int .i64 (i : Int)] ∧ H = [], ⟨rfl, kn.length, 0, by omega, by omega, rfl, rfl⟩, ?_⟩
      rintro nM vs H ⟨i, hc2_0, rfl, rfl, rfl⟩
      refine ⟨fun h4 => ?_, fun h4 => ?_⟩
      · replace h4 : (i : Int) < (kn.length : Int) := h4
        have hx : kn.getD i 0 = -1 := hp4 _ (getD_mem 0 kn i (by omega))
        refine ⟨⟨by show (0 : Int) ≤ (i : Int); omega, by show (i : Int) < (kn.length : Int); omega⟩, fun h5 => ?_, fun h5 => ?_⟩
        · replace h5 : ¬ ((kn.getD i 0) < (-1)) := h5
          refine ⟨fun h6 => ?_, fun h6 => ?_⟩
          · replace h6 : 255 < (kn.getD i 0) := h6
            omega
          · replace h6 : ¬ (255 < (kn.getD i 0)) := h6
            refine ⟨0, [(0, .k), (1, .k), (10, .k), (11, .k), (12, .k), (13, .k), (45, .k), (46, .k), (47, .k), (58, .k), (59, .k), (60, .k)], fun nM vs H => ∃ (j : Nat) (x : Int), j ≤ cv.length ∧ (j = 0 → x = -1) ∧ (0 < j → 0 ≤ x) ∧ nM = cv.length - j ∧ vs = [.sl false .str cv, .sl false .str ct, .int .i64 0, .b (true = true), .int .i64 (i : Int), .int .i64 x, .sl false (.int .i64) kn, .int .i64 (kn.length : Int), .int .i64 (i : Int), .sl false .str cv, .int .i64 (cv.length : Int), .int .i64 (j : Int)] ∧ H = [], ⟨rfl, cv.length, 0, (kn.getD i 0), by omega, by omega, by omega, by omega, rfl, rfl⟩, ?_⟩
            rintro nM vs H ⟨j, x, hc3_0, hc3_1, hc3_2, rfl, rfl, rfl⟩
            refine ⟨fun h7 => ?_, fun h7 => ?_⟩
            · replace h7 : (j : Int) < (cv.length : Int) := h7
              have e1 : (cv.getD j []).length = kn.length := by rw [show j = 0 by omega]; exact hp2
              have e2 : (ct.getD j []).length = kn.length := by rw [show j = 0 by omega]; exact hp3
              refine ⟨⟨by show (0 : Int) ≤ (j : Int); omega, by show (j : Int) < (cv.length : Int); omega⟩, by kernel_rfl, ⟨by show (0 : Int) ≤ (i : Int); omega, by show (i : Int) < ((cv.getD j []).length : Int); omega⟩, ⟨by show (0 : Int) ≤ (j : Int); omega, by show (j : Int) < (ct.length : Int); omega⟩, ⟨by show (0 : Int) ≤ (i : Int); omega, by show (i : Int) < ((ct.getD j []).length : Int); omega⟩, fun h8 => ?_, fun h8 => ?_⟩
              · replace h8 : 0 ≤ x := h8
                omega
              · replace h8 : ¬ (0 ≤ x) := h8
                refine ⟨⟨by show (-9223372036854775808 : Int) ≤ ((j : Int) + 1); omega, by show ((j : Int) + 1) ≤ (9223372036854775807 : Int); omega⟩, ?_⟩
                exact ⟨rfl, cv.length - (j + 1), by omega, j + 1, _, by omega, by omega, by omega, rfl, rfl, rfl⟩
            · replace h7 : ¬ ((j : Int) < (cv.length : Int)) := h7
              refine ⟨fun h9 => ?_, fun h9 => ?_⟩
              · replace h9 : x < 0 := h9
                omega
              · replace h9 : ¬ (x < 0) := h9
                refine ⟨⟨by show (-9223372036854775808 : Int) ≤ ((i : Int) + 1); omega, by show ((i : Int) + 1) ≤ (9223372036854775807 : Int); omega⟩, ?_⟩
                exact ⟨rfl, kn.length - (i + 1), by omega, i + 1, by omega, rfl, rfl, rfl⟩
        · replace h5 : (kn.getD i 0) < (-1) := h5
          omega
      · replace h4 : ¬ ((i : Int) < (kn.length : Int)) := h4
        refine ⟨fun h10 => ?_, fun h10 => ?_⟩
        · replace h10 : ¬ (true = true) := h10
          exact absurd rfl h10
        · replace h10 : ¬ (¬ (true = true)) := h10
          exact ⟨rfl, rfl, congrArg (fun p => V.tup [_, .b p]) (propext ⟨fun _ => trivial, fun _ => rfl⟩), rfl⟩
def CAgr2 : List (Nat × Con) := (10, pureC [.v (.sl .str), .v (.sl .str), .v (.sl (.int .i64))] sAgr2) :: CCov
theorem kAgr2 : Known Tryd.prog (En CAgr2 tys G6 QZCo2) := kCov.add Tryd.func10 Tryd.call10 [.k, .k] fun ds p v bs h hp => by
  unfold sAgr2 at h
  split at h <;> simp only [Option.some.injEq, Prod.mk.injEq, reduceCtorEq] at h
  obtain ⟨rfl, rfl, rfl⟩ := h
  exact bAgr2 _ _ _ hp.1 hp.2.1 hp.2.2.1 hp.2.2.2.1 hp.2.2.2.2.1 hp.2.2.2.2.2
end Go.Proofs.YtogipicegdbhdaaDoor.S40

namespace Go.Proofs.YtogipicegdbhdaaDoor.S40c
open Go

def cntL (b l n : Int) : Int := (l - b) / n + 1
def hsF : Int → List Int → Bool
  | _, [] => true
  | p, h :: t => decide (0 ≤ h ∧ h ≤ 11 ∧ p < h) && hsF h t
def chkL (b l n m : Int) (hs : List Int) : Int :=
  if 0 ≤ b ∧ b ≤ 1000000 ∧ b ≤ l ∧ l ≤ 1000000 ∧ 1 ≤ n ∧ n ≤ 1000000 then
    (if 500 < cntL b l n then 2 else if hsF (-1) hs = true then (if 1 ≤ m ∧ m ≤ hs.length then 0 else 3) else 1)
  else 3

/-- What is so of a calendar that is right. -/
structure Cal (b l n m : Int) (hs : List Int) : Prop where
  b0 : 0 ≤ b
  bl : b ≤ l
  l1 : l ≤ 1000000
  n1 : 1 ≤ n
  n2 : n ≤ 1000000
  c1 : 1 ≤ cntL b l n
  c2 : cntL b l n ≤ 500
  ho : hsF (-1) hs = true
  m1 : 1 ≤ m
  m2 : m ≤ List.length hs
  h12 : List.length hs ≤ 12

theorem hsF_len : ∀ (l : List Int) (p : Int), -1 ≤ p → hsF p l = true → p ≤ 11 → (List.length l : Int) ≤ 11 - p
  | [], p, _, _, hp => by simp only [List.length_nil]; omega
  | h :: t, p, h0, hh, hp => by
    simp only [hsF, Bool.and_eq_true, decide_eq_true_eq] at hh
    have := hsF_len t h (by omega) hh.2 (by omega)
    simp only [List.length_cons]; omega

theorem chk0 {b l n m : Int} {hs : List Int} (h : chkL b l n m hs = 0) : Cal b l n m hs := by
  unfold chkL at h
  split at h
  · rename_i h1
    split at h
    · omega
    · rename_i h2
      split at h
      · rename_i h3
        split at h
        · rename_i h4
          obtain ⟨a1, a2, a3, a4, a5, a6⟩ := h1
          have := hsF_len hs (-1) (by omega) h3 (by omega)
          exact ⟨a1, a3, a4, a5, a6, by unfold cntL; have := Int.ediv_nonneg (a := l - b) (b := n) (by omega) (by omega); omega, by omega, h3, h4.1, h4.2, by omega⟩
        · omega
      · omega
  · omega
theorem Cal.chk {b l n m : Int} {hs : List Int} (h : Cal b l n m hs) : chkL b l n m hs = 0 := by
  unfold chkL
  rw [if_pos ⟨h.b0, by have := h.bl; have := h.l1; omega, h.bl, h.l1, h.n1, h.n2⟩, if_neg (by have := h.c2; omega), if_pos h.ho, if_pos ⟨h.m1, h.m2⟩]

def spanF (b n q : Int) : Int := b + q * n
def spanT (b l n q : Int) : Int := min l (b + q * n + n - 1)
def expF (b n q : Int) : Int := b + max 0 (q - 1) * n
def expT (b l n q : Int) : Int := min l (b + q * n + n - 1) + 2
def perL (b l n m : Int) (hs : List Int) (t : Int) : Int := if chkL b l n m hs = 0 ∧ b ≤ t ∧ t ≤ l then (t - b) / n else -1
def askL (b l n m : Int) (hs : List Int) (q : Int) : Int := if chkL b l n m hs = 0 then (if 0 ≤ q ∧ q ≤ cntL b l n - 1 then 0 else 8) else chkL b l n m hs

theorem ask0 {b l n m : Int} {hs : List Int} {q : Int} (h : askL b l n m hs q = 0) : Cal b l n m hs ∧ 0 ≤ q ∧ q < cntL b l n := by
  unfold askL at h
  split at h
  · rename_i h1
    split at h
    · exact ⟨chk0 h1, by omega, by omega⟩
    · omega
  · contradiction
theorem Cal.ask {b l n m : Int} {hs : List Int} (h : Cal b l n m hs) {q : Int} (h0 : 0 ≤ q) (h1 : q < cntL b l n) : askL b l n m hs q = 0 := by
  unfold askL
  rw [if_pos h.chk, if_pos ⟨h0, by omega⟩]

theorem qn_ok {b l n q : Int} (hb : b ≤ l) (hn : 1 ≤ n) (h0 : 0 ≤ q) (h1 : q < cntL b l n) : 0 ≤ q * n ∧ q * n ≤ l - b ∧ q ≤ q * n := by
  have h5 : q * 1 ≤ q * n := Int.mul_le_mul_of_nonneg_left hn h0
  suffices q * n ≤ l - b from ⟨Int.mul_nonneg h0 (by omega), this, by omega⟩
  have h2 : q ≤ (l - b) / n := by unfold cntL at h1; omega
  have h3 : q * n ≤ ((l - b) / n) * n := Int.mul_le_mul_of_nonneg_right h2 (by omega)
  have h4 := Int.ediv_mul_le (l - b) (b := n) (by omega)
  omega
theorem Cal.qn {b l n m : Int} {hs : List Int} (h : Cal b l n m hs) {q : Int} (h0 : 0 ≤ q) (h1 : q < cntL b l n) : 0 ≤ q * n ∧ q * n ≤ l - b ∧ q ≤ q * n := qn_ok h.bl h.n1 h0 h1
theorem Cal.qn1 {b l n m : Int} {hs : List Int} (h : Cal b l n m hs) {q : Int} (h0 : 0 ≤ q) (h1 : q < cntL b l n) : 0 ≤ max 0 (q - 1) * n ∧ max 0 (q - 1) * n ≤ q * n :=
  ⟨Int.mul_nonneg (by omega) (by have := h.n1; omega), Int.mul_le_mul_of_nonneg_right (by omega) (by have := h.n1; omega)⟩

theorem drop_one {α : Type} (d : α) (l : List α) (k : Nat) (h : k < l.length) : l.drop k = l.getD k d :: l.drop (k + 1) := by
  rw [List.drop_eq_getElem_cons h]
  simp [List.getD_eq_getElem?_getD, h]
theorem take_snoc {α : Type} (d : α) (l : List α) (k : Nat) (h : k < l.length) : l.take (k + 1) = l.take k ++ [l.getD k d] := by
  rw [List.take_succ_eq_append_getElem h]
  simp [List.getD_eq_getElem?_getD, h]

/-- The one before, in a list of houses. -/
def prv (hs : List Int) (k : Nat) : Int := if k = 0 then -1 else hs.getD (k - 1) 0
theorem prv_pos (hs : List Int) {k : Nat} (h : 0 < k) : prv hs k = hs.getD (k - 1) 0 := if_neg (by omega)
theorem prv_zero (hs : List Int) {k : Nat} (h : ¬ 0 < k) : prv hs k = -1 := if_pos (by omega)
theorem hs_bad {hs : List Int} {k : Nat} (hk : k < hs.length) (hc : hsF (prv hs k) (hs.drop k) = hsF (-1) hs) (h : ¬ (0 ≤ hs.getD k 0 ∧ hs.getD k 0 ≤ 11 ∧ prv hs k < hs.getD k 0)) : hsF (-1) hs = false := by
  rw [← hc, drop_one 0 hs k hk, hsF, decide_eq_false h, Bool.false_and]
theorem hs_next {hs : List Int} {k : Nat} (hk : k < hs.length) (hc : hsF (prv hs k) (hs.drop k) = hsF (-1) hs) (h : 0 ≤ hs.getD k 0 ∧ hs.getD k 0 ≤ 11 ∧ prv hs k < hs.getD k 0) : hsF (prv hs (k + 1)) (hs.drop (k + 1)) = hsF (-1) hs := by
  rw [← hc, drop_one 0 hs k hk, hsF, decide_eq_true h, Bool.true_and]; rfl
theorem hs_end {hs : List Int} {k : Nat} (hk : k = hs.length) (hc : hsF (prv hs k) (hs.drop k) = hsF (-1) hs) : hsF (-1) hs = true := by
  rw [← hc, hk, List.drop_length]; rfl
end Go.Proofs.YtogipicegdbhdaaDoor.S40c

namespace Go.Proofs.YtogipicegdbhdaaDoor.S40c
open Go Go.Proofs.YtogipicegdbhdaaDoor.Vc Go.Proofs
set_option maxRecDepth 100000
set_option linter.unusedVariables false
open Go.Proofs.YtogipicegdbhdaaDoor.S40
def sWi : List V → Option (Prop × V × List Blk)
  | [.int .i64 x, .int .i64 lo, .int .i64 hi] => some (True, .b (lo ≤ x ∧ x ≤ hi), [])
  | _ => none
set_option maxHeartbeats 1000000 in
theorem bWi (x : Int) (lo : Int) (hi : Int)  : bodyP (En CAgr2 tys G6 QZCo2) Tryd.f73 [.k] [.int .i64 x, .int .i64 lo, .int .i64 hi] (.b (lo ≤ x ∧ x ≤ hi)) [] := by
  refine ⟨fun h0 => ?_, fun h0 => ?_⟩
  · replace h0 : lo ≤ x := h0
    exact ⟨rfl, rfl, congrArg V.b (propext (by constructor <;> intro h <;> first | omega | (exfalso; first | omega | exact Bool.noConfusion h))), rfl⟩
  · replace h0 : ¬ (lo ≤ x) := h0
    exact ⟨rfl, rfl, congrArg V.b (propext (by constructor <;> intro h <;> first | omega | (exfalso; first | omega | exact Bool.noConfusion h))), rfl⟩
def CWi : List (Nat × Con) := (73, pureC [.v (.int .i64), .v (.int .i64), .v (.int .i64)] sWi) :: CAgr2
theorem kWi : Known Tryd.prog (En CWi tys G6 QZCo2) := kAgr2.add Tryd.func73 Tryd.call73 [.k] fun ds p v bs h hp => by
  unfold sWi at h
  split at h <;> simp only [Option.some.injEq, Prod.mk.injEq, reduceCtorEq] at h
  obtain ⟨rfl, rfl, rfl⟩ := h
  exact bWi _ _ _
def sCnt : List V → Option (Prop × V × List Blk)
  | [.agg [.int .i64 b, .int .i64 l, .int .i64 d, .int .i64 m, .sl false (.int .i64) hs]] => some (0 ≤ b ∧ b ≤ l ∧ l ≤ 1000000 ∧ 1 ≤ d, .int .i64 (cntL b l d), [])
  | _ => none
set_option maxHeartbeats 1000000 in
theorem bCnt (b : Int) (l : Int) (d : Int) (m : Int) (hs : List Int) (hp0 : 0 ≤ b) (hp1 : b ≤ l) (hp2 : l ≤ 1000000) (hp3 : 1 ≤ d) : bodyP (En CWi tys G6 QZCo2) Tryd.f67 [.k] [.agg [.int .i64 b, .int .i64 l, .int .i64 d, .int .i64 m, .sl false (.int .i64) hs]] (.int .i64 (cntL b l d)) [] := by
  have hd := Int.ediv_nonneg (a := l - b) (b := d) (by omega) (by omega)
  have hd2 := Int.ediv_le_self (a := l - b) d (by omega)
  refine ⟨⟨by show (-9223372036854775808 : Int) ≤ (l - b); omega, by show (l - b) ≤ (9223372036854775807 : Int); omega⟩, .inl ⟨⟨by show (0 : Int) ≤ (l - b); omega, by show (0 : Int) < d; omega⟩, ?_⟩⟩
  refine ⟨⟨by show (-9223372036854775808 : Int) ≤ (((l - b) / d) + 1); omega, by show (((l - b) / d) + 1) ≤ (9223372036854775807 : Int); omega⟩, ?_⟩
  exact ⟨rfl, rfl, rfl, rfl⟩
def CCnt : List (Nat × Con) := (67, pureC [.v (.cons (.int .i64) (.cons (.int .i64) (.cons (.int .i64) (.cons (.int .i64) (.cons (.sl (.int .i64)) .nil)))))] sCnt) :: CWi
theorem kCnt : Known Tryd.prog (En CCnt tys G6 QZCo2) := kWi.add Tryd.func67 Tryd.call67 [.k] fun ds p v bs h hp => by
  unfold sCnt at h
  split at h <;> simp only [Option.some.injEq, Prod.mk.injEq, reduceCtorEq] at h
  obtain ⟨rfl, rfl, rfl⟩ := h
  exact bCnt _ _ _ _ _ hp.1 hp.2.1 hp.2.2.1 hp.2.2.2
def sChk : List V → Option (Prop × V × List Blk)
  | [.agg [.int .i64 b, .int .i64 l, .int .i64 d, .int .i64 m, .sl false (.int .i64) hs]] => some (hs.length ≤ 2000000, .int .i64 (chkL b l d m hs), [])
  | _ => none
set_option maxHeartbeats 1000000 in
theorem bChk (b : Int) (l : Int) (d : Int) (m : Int) (hs : List Int) (hp0 : hs.length ≤ 2000000) : bodyP (En CCnt tys G6 QZCo2) Tryd.f33 [.k] [.agg [.int .i64 b, .int .i64 l, .int .i64 d, .int .i64 m, .sl false (.int .i64) hs]] (.int .i64 (chkL b l d m hs)) [] := by
  refine ⟨rfl, rfl, rfl, trivial, fun h0 => ?_, fun h0 => ?_⟩
  · replace h0 : ¬ (¬ (0 ≤ b ∧ b ≤ 1000000)) := h0
    refine ⟨rfl, rfl, rfl, trivial, fun h1 => ?_, fun h1 => ?_⟩
    · replace h1 : ¬ (¬ (b ≤ l ∧ l ≤ 1000000)) := h1
      refine ⟨rfl, rfl, rfl, trivial, fun h2 => ?_, fun h2 => ?_⟩
      · replace h2 : ¬ (1 ≤ d ∧ d ≤ 1000000) := h2
        refine ⟨rfl, rfl, ?_, rfl⟩
        unfold chkL
        repeat' split
        all_goals first | rfl | omega | (exfalso; simp_all; done)
      · replace h2 : ¬ (¬ (1 ≤ d ∧ d ≤ 1000000)) := h2
        refine ⟨rfl, rfl, rfl, rfl, ⟨by show 0 ≤ b; first | omega | assumption, by show b ≤ l; first | omega | assumption, by show l ≤ 1000000; first | omega | assumption, by show 1 ≤ d; first | omega | assumption⟩, fun h3 => ?_, fun h3 => ?_⟩
        · replace h3 : 500 < (cntL b l d) := h3
          refine ⟨rfl, rfl, ?_, rfl⟩
          unfold chkL
          repeat' split
          all_goals first | rfl | omega | (exfalso; simp_all; done)
        · replace h3 : ¬ (500 < (cntL b l d)) := h3
          refine ⟨1, [(1, .k), (29, .k), (30, .k), (31, .k)], fun nM vs H => ∃ (k : Nat), k ≤ hs.length ∧ hsF (prv hs k) (hs.drop k) = hsF (-1) hs ∧ nM = hs.length - k ∧ vs = [.ptr 0 1 0 0, .sl false (.int .i64) hs, .int .i64 (hs.length : Int), .int .i64 (k : Int)] ∧ H = [.cells [.int .i64 b, .int .i64 l, .int .i64 d, .int .i64 m, .sl false (.int .i64) hs]], ⟨rfl, hs.length, 0, by omega, rfl, by omega, rfl, rfl⟩, ?_⟩
          rintro nM vs H ⟨k, hc1_0, hc1_1, rfl, rfl, rfl⟩
          refine ⟨fun h4 => ?_, fun h4 => ?_⟩
          · replace h4 : (k : Int) < (hs.length : Int) := h4
            have hkl : k < hs.length := by omega
            have hk1 : ((k : Int) - 1).toNat = k - 1 := by omega
            refine ⟨⟨by show (0 : Int) ≤ (k : Int); omega, by show (k : Int) < (hs.length : Int); omega⟩, rfl, rfl, rfl, trivial, fun h5 => ?_, fun h5 => ?_⟩
            · replace h5 : ¬ (¬ (0 ≤ (hs.getD k 0) ∧ (hs.getD k 0) ≤ 11)) := h5
              refine ⟨fun h6 => ?_, fun h6 => ?_⟩
              · replace h6 : 0 < (k : Int) := h6
                refine ⟨⟨by show (-9223372036854775808 : Int) ≤ ((k : Int) - 1); omega, by show ((k : Int) - 1) ≤ (9223372036854775807 : Int); omega⟩, ⟨by show (0 : Int) ≤ ((k : Int) - 1); omega, by show ((k : Int) - 1) < (hs.length : Int); omega⟩, fun h7 => ?_, fun h7 => ?_⟩
                · replace h7 : (hs.getD k 0) ≤ (hs.getD (((k : Int) - 1).toNat) 0) := h7
                  rw [hk1] at h7
                  have e := hs_bad hkl hc1_1 (by rw [prv_pos hs (by omega)]; omega)
                  refine ⟨rfl, rfl, ?_, rfl⟩
                  unfold chkL
                  repeat' split
                  all_goals first | rfl | omega | (exfalso; simp_all; done)
                · replace h7 : ¬ ((hs.getD k 0) ≤ (hs.getD (((k : Int) - 1).toNat) 0)) := h7
                  rw [hk1] at h7
                  refine ⟨⟨by show (-9223372036854775808 : Int) ≤ ((k : Int) + 1); omega, by show ((k : Int) + 1) ≤ (9223372036854775807 : Int); omega⟩, ?_⟩
                  exact ⟨rfl, hs.length - (k + 1), by omega, k + 1, by omega, hs_next hkl hc1_1 (by first | (rw [prv_pos hs (by omega)]; omega) | (rw [prv_zero hs (by omega)]; omega)), rfl, rfl, rfl⟩
              · replace h6 : ¬ (0 < (k : Int)) := h6
                refine ⟨⟨by show (-9223372036854775808 : Int) ≤ ((k : Int) + 1); omega, by show ((k : Int) + 1) ≤ (9223372036854775807 : Int); omega⟩, ?_⟩
                exact ⟨rfl, hs.length - (k + 1), by omega, k + 1, by omega, hs_next hkl hc1_1 (by first | (rw [prv_pos hs (by omega)]; omega) | (rw [prv_zero hs (by omega)]; omega)), rfl, rfl, rfl⟩
            · replace h5 : ¬ (0 ≤ (hs.getD k 0) ∧ (hs.getD k 0) ≤ 11) := h5
              have e := hs_bad hkl hc1_1 (by omega)
              refine ⟨rfl, rfl, ?_, rfl⟩
              unfold chkL
              repeat' split
              all_goals first | rfl | omega | (exfalso; simp_all; done)
          · replace h4 : ¬ ((k : Int) < (hs.length : Int)) := h4
            have e := hs_end (by omega) hc1_1
            refine ⟨rfl, rfl, rfl, trivial, fun h8 => ?_, fun h8 => ?_⟩
            · replace h8 : ¬ (1 ≤ m ∧ m ≤ (hs.length : Int)) := h8
              refine ⟨rfl, rfl, ?_, rfl⟩
              unfold chkL
              repeat' split
              all_goals first | rfl | omega | (exfalso; simp_all; done)
            · replace h8 : ¬ (¬ (1 ≤ m ∧ m ≤ (hs.length : Int))) := h8
              refine ⟨rfl, rfl, ?_, rfl⟩
              unfold chkL
              repeat' split
              all_goals first | rfl | omega | (exfalso; simp_all; done)
    · replace h1 : ¬ (b ≤ l ∧ l ≤ 1000000) := h1
      refine ⟨rfl, rfl, ?_, rfl⟩
      unfold chkL
      repeat' split
      all_goals first | rfl | omega | (exfalso; simp_all; done)
  · replace h0 : ¬ (0 ≤ b ∧ b ≤ 1000000) := h0
    refine ⟨rfl, rfl, ?_, rfl⟩
    unfold chkL
    repeat' split
    all_goals first | rfl | omega | (exfalso; simp_all; done)
def CChk : List (Nat × Con) := (33, pureC [.v (.cons (.int .i64) (.cons (.int .i64) (.cons (.int .i64) (.cons (.int .i64) (.cons (.sl (.int .i64)) .nil)))))] sChk) :: CCnt
theorem kChk : Known Tryd.prog (En CChk tys G6 QZCo2) := kCnt.add Tryd.func33 Tryd.call33 [.k] fun ds p v bs h hp => by
  unfold sChk at h
  split at h <;> simp only [Option.some.injEq, Prod.mk.injEq, reduceCtorEq] at h
  obtain ⟨rfl, rfl, rfl⟩ := h
  exact bChk _ _ _ _ _ hp
def sPers : List V → Option (Prop × V × List Blk)
  | [.agg [.int .i64 b, .int .i64 l, .int .i64 d, .int .i64 m, .sl false (.int .i64) hs]] => some (hs.length ≤ 2000000, .int .i64 (if chkL b l d m hs = 0 then cntL b l d else 0), [])
  | _ => none
set_option maxHeartbeats 1000000 in
theorem bPers (b : Int) (l : Int) (d : Int) (m : Int) (hs : List Int) (hp0 : hs.length ≤ 2000000) : bodyP (En CChk tys G6 QZCo2) Tryd.f29 [.k] [.agg [.int .i64 b, .int .i64 l, .int .i64 d, .int .i64 m, .sl false (.int .i64) hs]] (.int .i64 (if chkL b l d m hs = 0 then cntL b l d else 0)) [] := by
  refine ⟨rfl, rfl, rfl, rfl, by show hs.length ≤ 2000000; first | omega | assumption, fun h0 => ?_, fun h0 => ?_⟩
  · replace h0 : (chkL b l d m hs) ≠ 0 := h0
    first | (rw [if_neg h0]; exact ⟨rfl, rfl, rfl, rfl⟩) | (rw [if_pos (Classical.not_not.1 h0)]; exact ⟨rfl, rfl, rfl, rfl⟩)
  · replace h0 : ¬ ((chkL b l d m hs) ≠ 0) := h0
    have hc := chk0 (Classical.not_not.1 h0)
    obtain ⟨q1, q2, q3, q4, q5, q6, q7, _, _, _, _⟩ := hc
    refine ⟨rfl, rfl, rfl, rfl, ⟨by show 0 ≤ b; first | omega | assumption, by show b ≤ l; first | omega | assumption, by show l ≤ 1000000; first | omega | assumption, by show 1 ≤ d; first | omega | assumption⟩, ?_⟩
    first | (rw [if_neg h0]; exact ⟨rfl, rfl, rfl, rfl⟩) | (rw [if_pos (Classical.not_not.1 h0)]; exact ⟨rfl, rfl, rfl, rfl⟩)
def CPers : List (Nat × Con) := (29, pureC [.v (.cons (.int .i64) (.cons (.int .i64) (.cons (.int .i64) (.cons (.int .i64) (.cons (.sl (.int .i64)) .nil)))))] sPers) :: CChk
theorem kPers : Known Tryd.prog (En CPers tys G6 QZCo2) := kChk.add Tryd.func29 Tryd.call29 [.k] fun ds p v bs h hp => by
  unfold sPers at h
  split at h <;> simp only [Option.some.injEq, Prod.mk.injEq, reduceCtorEq] at h
  obtain ⟨rfl, rfl, rfl⟩ := h
  exact bPers _ _ _ _ _ hp
def sSp : List V → Option (Prop × V × List Blk)
  | [.agg [.int .i64 b, .int .i64 l, .int .i64 d, .int .i64 m, .sl false (.int .i64) hs], .int .i64 q] => some (0 ≤ b ∧ b ≤ l ∧ l ≤ 1000000 ∧ 1 ≤ d ∧ d ≤ 1000000 ∧ 0 ≤ q ∧ q < cntL b l d, .tup [.int .i64 (spanF b d q), .int .i64 (spanT b l d q)], [])
  | _ => none
set_option maxHeartbeats 1000000 in
theorem bSp (b : Int) (l : Int) (d : Int) (m : Int) (hs : List Int) (q : Int) (hp0 : 0 ≤ b) (hp1 : b ≤ l) (hp2 : l ≤ 1000000) (hp3 : 1 ≤ d) (hp4 : d ≤ 1000000) (hp5 : 0 ≤ q) (hp6 : q < cntL b l d) : bodyP (En CPers tys G6 QZCo2) Tryd.f91 [.k, .k] [.agg [.int .i64 b, .int .i64 l, .int .i64 d, .int .i64 m, .sl false (.int .i64) hs], .int .i64 q] (.tup [.int .i64 (spanF b d q), .int .i64 (spanT b l d q)]) [] := by
  obtain ⟨z1, z2, z3⟩ := qn_ok hp1 hp3 hp5 hp6
  refine ⟨⟨by show (-9223372036854775808 : Int) ≤ (q * d); omega, by show (q * d) ≤ (9223372036854775807 : Int); omega⟩, ⟨by show (-9223372036854775808 : Int) ≤ (b + (q * d)); omega, by show (b + (q * d)) ≤ (9223372036854775807 : Int); omega⟩, by kernel_rfl, ⟨by show (-9223372036854775808 : Int) ≤ ((b + (q * d)) + d); omega, by show ((b + (q * d)) + d) ≤ (9223372036854775807 : Int); omega⟩, ⟨by show (-9223372036854775808 : Int) ≤ (((b + (q * d)) + d) - 1); omega, by show (((b + (q * d)) + d) - 1) ≤ (9223372036854775807 : Int); omega⟩, ?_⟩
  exact ⟨rfl, rfl, rfl, rfl⟩
def CSp : List (Nat × Con) := (91, pureC [.v (.cons (.int .i64) (.cons (.int .i64) (.cons (.int .i64) (.cons (.int .i64) (.cons (.sl (.int .i64)) .nil))))), .v (.int .i64)] sSp) :: CPers
theorem kSp : Known Tryd.prog (En CSp tys G6 QZCo2) := kPers.add Tryd.func91 Tryd.call91 [.k, .k] fun ds p v bs h hp => by
  unfold sSp at h
  split at h <;> simp only [Option.some.injEq, Prod.mk.injEq, reduceCtorEq] at h
  obtain ⟨rfl, rfl, rfl⟩ := h
  exact bSp _ _ _ _ _ _ hp.1 hp.2.1 hp.2.2.1 hp.2.2.2.1 hp.2.2.2.2.1 hp.2.2.2.2.2.1 hp.2.2.2.2.2.2
def sEx : List V → Option (Prop × V × List Blk)
  | [.agg [.int .i64 b, .int .i64 l, .int .i64 d, .int .i64 m, .sl false (.int .i64) hs], .int .i64 q] => some (0 ≤ b ∧ b ≤ l ∧ l ≤ 1000000 ∧ 1 ≤ d ∧ d ≤ 1000000 ∧ 0 ≤ q ∧ q < cntL b l d, .tup [.int .i64 (expF b d q), .int .i64 (expT b l d q)], [])
  | _ => none
set_option maxHeartbeats 1000000 in
theorem bEx (b : Int) (l : Int) (d : Int) (m : Int) (hs : List Int) (q : Int) (hp0 : 0 ≤ b) (hp1 : b ≤ l) (hp2 : l ≤ 1000000) (hp3 : 1 ≤ d) (hp4 : d ≤ 1000000) (hp5 : 0 ≤ q) (hp6 : q < cntL b l d) : bodyP (En CSp tys G6 QZCo2) Tryd.f90 [.k, .k] [.agg [.int .i64 b, .int .i64 l, .int .i64 d, .int .i64 m, .sl false (.int .i64) hs], .int .i64 q] (.tup [.int .i64 (expF b d q), .int .i64 (expT b l d q)]) [] := by
  obtain ⟨z1, z2, z3⟩ := qn_ok hp1 hp3 hp5 hp6
  have hz : spanT b l d q ≤ l ∧ b - 1 ≤ spanT b l d q := by unfold spanT; omega
  refine ⟨⟨by show (-9223372036854775808 : Int) ≤ (q - 1); omega, by show (q - 1) ≤ (9223372036854775807 : Int); omega⟩, rfl, rfl, rfl, rfl, rfl, ⟨by show 0 ≤ b; first | omega | assumption, by show b ≤ l; first | omega | assumption, by show l ≤ 1000000; first | omega | assumption, by show 1 ≤ d; first | omega | assumption, by show d ≤ 1000000; first | omega | assumption, by show 0 ≤ (max 0 (q - 1)); first | omega | assumption, by show (max 0 (q - 1)) < cntL b l d; first | omega | assumption⟩, rfl, rfl, rfl, rfl, rfl, ⟨by show 0 ≤ b; first | omega | assumption, by show b ≤ l; first | omega | assumption, by show l ≤ 1000000; first | omega | assumption, by show 1 ≤ d; first | omega | assumption, by show d ≤ 1000000; first | omega | assumption, by show 0 ≤ q; first | omega | assumption, by show q < cntL b l d; first | omega | assumption⟩, ⟨by show (-9223372036854775808 : Int) ≤ ((spanT b l d q) + 2); omega, by show ((spanT b l d q) + 2) ≤ (9223372036854775807 : Int); omega⟩, ?_⟩
  exact ⟨rfl, rfl, rfl, rfl⟩
def CEx : List (Nat × Con) := (90, pureC [.v (.cons (.int .i64) (.cons (.int .i64) (.cons (.int .i64) (.cons (.int .i64) (.cons (.sl (.int .i64)) .nil))))), .v (.int .i64)] sEx) :: CSp
theorem kEx : Known Tryd.prog (En CEx tys G6 QZCo2) := kSp.add Tryd.func90 Tryd.call90 [.k, .k] fun ds p v bs h hp => by
  unfold sEx at h
  split at h <;> simp only [Option.some.injEq, Prod.mk.injEq, reduceCtorEq] at h
  obtain ⟨rfl, rfl, rfl⟩ := h
  exact bEx _ _ _ _ _ _ hp.1 hp.2.1 hp.2.2.1 hp.2.2.2.1 hp.2.2.2.2.1 hp.2.2.2.2.2.1 hp.2.2.2.2.2.2
def sAsk : List V → Option (Prop × V × List Blk)
  | [.agg [.int .i64 b, .int .i64 l, .int .i64 d, .int .i64 m, .sl false (.int .i64) hs], .int .i64 q] => some (hs.length ≤ 2000000, .int .i64 (askL b l d m hs q), [])
  | _ => none
set_option maxHeartbeats 1000000 in
theorem bAsk (b : Int) (l : Int) (d : Int) (m : Int) (hs : List Int) (q : Int) (hp0 : hs.length ≤ 2000000) : bodyP (En CEx tys G6 QZCo2) Tryd.f40 [.k] [.agg [.int .i64 b, .int .i64 l, .int .i64 d, .int .i64 m, .sl false (.int .i64) hs], .int .i64 q] (.int .i64 (askL b l d m hs q)) [] := by
  refine ⟨rfl, rfl, rfl, rfl, by show hs.length ≤ 2000000; first | omega | assumption, fun h0 => ?_, fun h0 => ?_⟩
  · replace h0 : (chkL b l d m hs) ≠ 0 := h0
    refine ⟨rfl, rfl, ?_, rfl⟩
    unfold askL
    repeat' split
    all_goals first | rfl | omega | (exfalso; simp_all; done)
  · replace h0 : ¬ ((chkL b l d m hs) ≠ 0) := h0
    have hc := chk0 (Classical.not_not.1 h0)
    obtain ⟨q1, q2, q3, q4, q5, q6, q7, q8, q9, q10, q11⟩ := id hc
    refine ⟨rfl, rfl, rfl, rfl, ⟨by show 0 ≤ b; first | omega | assumption, by show b ≤ l; first | omega | assumption, by show l ≤ 1000000; first | omega | assumption, by show 1 ≤ d; first | omega | assumption⟩, ⟨by show (-9223372036854775808 : Int) ≤ ((cntL b l d) - 1); omega, by show ((cntL b l d) - 1) ≤ (9223372036854775807 : Int); omega⟩, rfl, rfl, rfl, trivial, fun h1 => ?_, fun h1 => ?_⟩
    · replace h1 : ¬ (0 ≤ q ∧ q ≤ ((cntL b l d) - 1)) := h1
      refine ⟨rfl, rfl, ?_, rfl⟩
      unfold askL
      repeat' split
      all_goals first | rfl | omega | (exfalso; simp_all; done)
    · replace h1 : ¬ (¬ (0 ≤ q ∧ q ≤ ((cntL b l d) - 1))) := h1
      refine ⟨rfl, rfl, ?_, rfl⟩
      unfold askL
      repeat' split
      all_goals first | rfl | omega | (exfalso; simp_all; done)
def CAsk : List (Nat × Con) := (40, pureC [.v (.cons (.int .i64) (.cons (.int .i64) (.cons (.int .i64) (.cons (.int .i64) (.cons (.sl (.int .i64)) .nil))))), .v (.int .i64)] sAsk) :: CEx
theorem kAsk : Known Tryd.prog (En CAsk tys G6 QZCo2) := kEx.add Tryd.func40 Tryd.call40 [.k] fun ds p v bs h hp => by
  unfold sAsk at h
  split at h <;> simp only [Option.some.injEq, Prod.mk.injEq, reduceCtorEq] at h
  obtain ⟨rfl, rfl, rfl⟩ := h
  exact bAsk _ _ _ _ _ _ hp
end Go.Proofs.YtogipicegdbhdaaDoor.S40c

namespace Go.Proofs.YtogipicegdbhdaaDoor.S40c
open Go

def idxF (v : Int) : List Int → Int → Int
  | [], _ => -1
  | x :: t, k => if v = x then k else idxF v t (k + 1)
theorem idxF_mem (v : Int) : ∀ (l : List Int) (k : Int), 0 ≤ k → (0 ≤ idxF v l k ↔ v ∈ l)
  | [], k, _ => by simp [idxF]
  | x :: t, k, h => by
    unfold idxF
    split
    · rename_i e; subst e; simp [h]
    · rename_i e
      rw [idxF_mem v t (k + 1) (by omega)]
      simp [e]

abbrev Cp := Int × Int × Unit
def capB (x : Cp) : Bool := decide (0 ≤ x.1 ∧ x.1 ≤ 11 ∧ 0 ≤ x.2.1 ∧ x.2.1 ≤ 1000000)
def capL (l : List Cp) : Int := if 500 < l.length then 2 else if l.all capB = true then 0 else 3
theorem cap0 {l : List Cp} (h : capL l = 0) : l.length ≤ 500 ∧ ∀ x ∈ l, capB x = true := by
  unfold capL at h
  split at h
  · omega
  · split at h
    · rename_i h1 h2; exact ⟨by omega, by simpa using h2⟩
    · omega
theorem cap0' {l : List Cp} (h : l.length ≤ 500) (h2 : ∀ x ∈ l, capB x = true) : capL l = 0 := by
  unfold capL
  rw [if_neg (by omega), if_pos (by simpa using h2)]
theorem capB_ok {x : Cp} (h : capB x = true) : 0 ≤ x.1 ∧ x.1 ≤ 11 ∧ 0 ≤ x.2.1 ∧ x.2.1 ≤ 1000000 := by simpa [capB] using h

theorem capB_no {x : Cp} (h : ¬ (0 ≤ x.1 ∧ x.1 ≤ 11 ∧ 0 ≤ x.2.1 ∧ x.2.1 ≤ 1000000)) : capB x = false := decide_eq_false h
theorem capB_yes {x : Cp} (h : 0 ≤ x.1 ∧ x.1 ≤ 11 ∧ 0 ≤ x.2.1 ∧ x.2.1 ≤ 1000000) : capB x = true := decide_eq_true h
theorem all_bad {α : Type} {d : α} {p : α → Bool} {l : List α} {k : Nat} (hk : k < l.length) (hc : (l.drop k).all p = l.all p) (h : p (l.getD k d) = false) : l.all p = false := by
  rw [← hc, drop_one d l k hk, List.all_cons, h, Bool.false_and]
theorem all_next {α : Type} {d : α} {p : α → Bool} {l : List α} {k : Nat} (hk : k < l.length) (hc : (l.drop k).all p = l.all p) (h : p (l.getD k d) = true) : (l.drop (k + 1)).all p = l.all p := by
  rw [← hc, drop_one d l k hk, List.all_cons, h, Bool.true_and]
theorem all_end {α : Type} {p : α → Bool} {l : List α} {k : Nat} (hk : l.length ≤ k) (hc : (l.drop k).all p = l.all p) : l.all p = true := by
  rw [← hc, List.drop_eq_nil_of_le hk]; rfl

/-! ### periods that are exposed at a tick -/
def exB (b l d t q : Int) : Bool := decide (expF b d q ≤ t ∧ t ≤ expT b l d q)
def atG (b l d t : Int) : Nat → Int → List Int
  | 0, _ => []
  | f + 1, q => if exB b l d t q = true then q :: atG b l d t f (q + 1) else atG b l d t f (q + 1)
def atL (b l d t : Int) : List Int := atG b l d t (cntL b l d).toNat 0
theorem atG_mem (b l d t : Int) : ∀ (f : Nat) (q x : Int), x ∈ atG b l d t f q ↔ q ≤ x ∧ x < q + f ∧ exB b l d t x = true
  | 0, q, x => by simp [atG]; omega
  | f + 1, q, x => by
    unfold atG
    split
    · rename_i h
      rw [List.mem_cons, atG_mem b l d t f (q + 1) x]
      constructor
      · rintro (rfl | ⟨h1, h2, h3⟩)
        · exact ⟨by omega, by omega, h⟩
        · exact ⟨by omega, by omega, h3⟩
      · rintro ⟨h1, h2, h3⟩
        by_cases e : x = q
        · exact .inl e
        · exact .inr ⟨by omega, by omega, h3⟩
    · rename_i h
      rw [atG_mem b l d t f (q + 1) x]
      constructor
      · rintro ⟨h1, h2, h3⟩; exact ⟨by omega, by omega, h3⟩
      · rintro ⟨h1, h2, h3⟩
        refine ⟨?_, by omega, h3⟩
        by_cases e : x = q
        · subst e; exact absurd h3 h
        · omega
theorem atG_skip (b l d t : Int) : ∀ (j f : Nat) (q : Int), (∀ x, q ≤ x → x < q + j → exB b l d t x = false) → atG b l d t (f + j) q = atG b l d t f (q + j)
  | 0, f, q, _ => by simp
  | j + 1, f, q, h => by
    rw [show f + (j + 1) = (f + j) + 1 by omega, atG, if_neg (by rw [h q (by omega) (by omega)]; simp), atG_skip b l d t j f (q + 1) fun x h1 h2 => h x (by omega) (by omega)]
    congr 1; omega
theorem atG_nil (b l d t : Int) (f : Nat) (q : Int) (h : ∀ x, q ≤ x → x < q + f → exB b l d t x = false) : atG b l d t f q = [] := by
  cases e : atG b l d t f q with
  | nil => rfl
  | cons x r =>
    have := (atG_mem b l d t f q x).1 (by rw [e]; simp)
    rw [h x this.1 this.2.1] at this
    simp at this
theorem max_tdiv (a d : Int) (hd : 0 < d) : max 0 (Int.tdiv a d) = if 0 ≤ a then a / d else 0 := by
  split
  · rename_i h
    rw [Int.tdiv_eq_ediv_of_nonneg h]
    have := Int.ediv_nonneg h (by omega : 0 ≤ d)
    omega
  · rename_i h
    have : a.tdiv d = -((-a) / d) := by rw [Go.tdiv_eq_if, if_neg (by omega)]
    have := Int.ediv_nonneg (a := -a) (b := d) (by omega) (by omega)
    omega
theorem at_early {b l d t : Int} (hd : 1 ≤ d) {x : Int} (h1 : x < max 0 (Int.tdiv (t - 2 - b) d)) (h0 : 0 ≤ x) : exB b l d t x = false := by
  rw [max_tdiv _ _ (by omega)] at h1
  split at h1
  · rename_i h2
    have h3 : x + 1 ≤ (t - 2 - b) / d := by omega
    have h4 := Int.mul_le_mul_of_nonneg_right h3 (by omega : 0 ≤ d)
    have h5 := Int.ediv_mul_le (t - 2 - b) (b := d) (by omega)
    have h6 : (x + 1) * d = x * d + d := by rw [Int.add_mul, Int.one_mul]
    apply decide_eq_false
    unfold expT
    omega
  · omega
theorem expF_mono {b d q x : Int} (hd : 1 ≤ d) (h : q ≤ x) : expF b d q ≤ expF b d x := by
  unfold expF
  have := Int.mul_le_mul_of_nonneg_right (by omega : max 0 (q - 1) ≤ max 0 (x - 1)) (by omega : 0 ≤ d)
  omega
theorem at_late {b l d t q : Int} (hd : 1 ≤ d) (h : t < expF b d q) {x : Int} (hx : q ≤ x) : exB b l d t x = false := by
  have := expF_mono (b := b) hd hx
  apply decide_eq_false
  omega
theorem at_start {b l d t : Int} (hd : 1 ≤ d) (hc : 0 ≤ cntL b l d) : atL b l d t = atG b l d t (cntL b l d - max 0 (Int.tdiv (t - 2 - b) d)).toNat (max 0 (Int.tdiv (t - 2 - b) d)) := by
  obtain ⟨q0, hq⟩ : ∃ q0 : Nat, max 0 (Int.tdiv (t - 2 - b) d) = (q0 : Int) := ⟨(max 0 (Int.tdiv (t - 2 - b) d)).toNat, by omega⟩
  have he : ∀ x : Int, 0 ≤ x → x < q0 → exB b l d t x = false := fun x h0 h1 => at_early hd (by omega) h0
  rw [hq]
  unfold atL
  rcases Nat.le_total q0 (cntL b l d).toNat with h | h
  · rw [show (cntL b l d).toNat = (cntL b l d - q0).toNat + q0 by omega, atG_skip _ _ _ _ q0 _ 0 fun x h1 h2 => he x h1 (by omega)]
    congr 1
    omega
  · rw [show (cntL b l d - (q0 : Int)).toNat = 0 by omega, atG_nil _ _ _ _ _ 0 fun x h1 h2 => he x h1 (by omega)]
    rfl

theorem drop_cons {α : Type} {l r : List α} {x d : α} {k : Nat} (h : l.drop k = x :: r) : k < l.length ∧ l.getD k d = x ∧ l.drop (k + 1) = r := by
  have hk : k < l.length := by
    rcases Nat.lt_or_ge k l.length with g | g
    · exact g
    · rw [List.drop_eq_nil_of_le g] at h; cases h
  rw [drop_one d l k hk] at h
  injection h with h1 h2
  exact ⟨hk, h1, h2⟩
theorem drop_nil {α : Type} {l : List α} {k : Nat} (hk : k ≤ l.length) (h : l.drop k = []) : k = l.length := by
  have := List.drop_eq_nil_iff.1 h; omega

theorem getD_mem {α : Type} (d : α) (l : List α) (k : Nat) (h : k < l.length) : l.getD k d ∈ l := by
  simp [List.getD_eq_getElem?_getD, h]
theorem atL_at {b l d t : Int} {n : Nat} (hc : 0 ≤ cntL b l d) (h : n < (atL b l d t).length) : 0 ≤ (atL b l d t).getD n 0 ∧ (atL b l d t).getD n 0 < cntL b l d ∧ exB b l d t ((atL b l d t).getD n 0) = true := by
  have := (atG_mem b l d t (cntL b l d).toNat 0 _).1 (getD_mem 0 (atL b l d t) n h)
  exact ⟨this.1, by have := this.2.1; omega, this.2.2⟩
theorem hsF_at : ∀ (l : List Int) (p : Int) (k : Nat), hsF p l = true → k < l.length → 0 ≤ l.getD k 0 ∧ l.getD k 0 ≤ 11
  | [], p, k, _, hk => by simp at hk
  | h :: t, p, 0, hh, hk => by
    simp only [hsF, Bool.and_eq_true, decide_eq_true_eq] at hh
    exact ⟨hh.1.1, hh.1.2.1⟩
  | h :: t, p, k + 1, hh, hk => by
    simp only [hsF, Bool.and_eq_true, decide_eq_true_eq] at hh
    have := hsF_at t h k hh.2 (by simpa using hk)
    simpa using this
theorem sh_nonneg {a : Int} (h : 0 ≤ a) (n : Nat) : 0 ≤ a / 2 ^ n := Int.ediv_nonneg h (Int.pow_nonneg (by omega))

/-! ### houses that are known in the periods -/
def mk (N : Nat) (F : Nat → Nat → Bool) : List (List Bool) := (List.range N).map fun q => (List.range 12).map (F q)
theorem mk_len (N F) : (mk N F).length = N := by simp [mk]
theorem mk_get {N : Nat} {F : Nat → Nat → Bool} {q : Nat} (h : q < N) (e : List Bool) : (mk N F).getD q e = (List.range 12).map (F q) := by
  simp [mk, List.getD_eq_getElem?_getD, h]
theorem row_get {f : Nat → Bool} {h : Nat} (hh : h < 12) (e : Bool) : ((List.range 12).map f).getD h e = f h := by
  simp [List.getD_eq_getElem?_getD, hh]
theorem mk_congr {N : Nat} {F G : Nat → Nat → Bool} (h : ∀ q h, q < N → h < 12 → F q h = G q h) : mk N F = mk N G := by
  apply List.map_congr_left
  intro q hq
  apply List.map_congr_left
  intro k hk
  exact h q k (by simpa using hq) (by simpa using hk)
theorem row_set (f : Nat → Bool) (h : Nat) (v : Bool) : ((List.range 12).map f).set h v = (List.range 12).map fun x => if x = h then v else f x := by
  apply List.ext_getElem (by simp)
  intro i h1 h2
  simp only [List.getElem_set, List.getElem_map, List.getElem_range]
  by_cases e : h = i
  · subst e; simp
  · rw [if_neg e, if_neg (fun x => e x.symm)]
theorem mk_set {N : Nat} {F : Nat → Nat → Bool} {q : Nat} (hq : q < N) (h : Nat) (v : Bool) (e : List Bool) :
    (mk N F).set q (((mk N F).getD q e).set h v) = mk N fun x y => if x = q ∧ y = h then v else F x y := by
  rw [mk_get hq, row_set]
  apply List.ext_getElem (by simp [mk])
  intro i h1 h2
  simp only [mk, List.getElem_set, List.getElem_map, List.getElem_range]
  by_cases e : q = i
  · subst e
    rw [if_pos rfl]
    apply List.map_congr_left
    intro y hy
    by_cases e2 : y = h
    · simp [e2]
    · simp [e2]
  · rw [if_neg e]
    apply List.map_congr_left
    intro y hy
    rw [if_neg (fun x => e x.1.symm)]
theorem mk_zero (N : Nat) : List.replicate N (List.replicate 12 false) = mk N fun _ _ => false := by
  apply List.ext_getElem (by simp [mk])
  intro i h1 h2
  simp only [mk, List.getElem_replicate, List.getElem_map, List.getElem_range]
  rfl

def bitB (bad : Int) (h : Nat) : Bool := decide (bad / 2 ^ h % 2 = 1)
theorem bit_and (x : Int) (h : 0 ≤ x) : ((x.toNat &&& (1 : Int).toNat : Nat) : Int) = x % 2 := by
  have : x.toNat &&& 1 = x.toNat % 2 := Nat.and_one_is_mod _
  rw [show (1 : Int).toNat = 1 from rfl, this]; omega
theorem bit_store {bad : Int} (h0 : 0 ≤ bad) (h : Int) : (@decide ((((bad / 2 ^ h.toNat).toNat &&& (1 : Int).toNat : Nat) : Int) = 1) (Classical.propDecidable _)) = bitB bad h.toNat := by
  have e := bit_and (bad / 2 ^ h.toNat) (Int.ediv_nonneg h0 (by exact_mod_cast Nat.zero_le _))
  unfold bitB
  rw [← e]
  congr

/-- after the first i periods, and the first k houses of the next one -/
def seenA (hs : List Int) (bad : Int) (i k : Nat) (q h : Nat) : Bool := (decide (q < i) && hs.contains (h : Int) || decide (q = i) && (hs.take k).contains (h : Int)) && bitB bad h
def capIn (b l d : Int) (q h : Nat) (x : Cp) : Bool := decide (x.1 = h) && exB b l d x.2.1 q
def seenC (b l d : Int) (hs : List Int) (bad : Int) (caps : List Cp) (q h : Nat) : Bool := hs.contains (h : Int) && (bitB bad h || caps.any (capIn b l d q h))

theorem seenA_zero (hs bad N) : mk N (seenA hs bad 0 0) = mk N fun _ _ => false := mk_congr fun q h _ _ => by simp [seenA]
theorem contains_take (hs : List Int) (k : Nat) (hk : k < hs.length) (x : Int) : (hs.take (k + 1)).contains x = ((hs.take k).contains x || decide (x = hs.getD k 0)) := by
  rw [take_snoc 0 hs k hk]
  simp [Bool.eq_iff_iff]
theorem seenA_step {hs : List Int} {bad : Int} {N i k : Nat} (hk : k < hs.length) (h0 : 0 ≤ hs.getD k 0) (h1 : hs.getD k 0 ≤ 11) (hi : i < N) (e : List Bool) :
    (mk N (seenA hs bad i k)).set i (((mk N (seenA hs bad i k)).getD i e).set ((hs.getD k 0).toNat * 1) (bitB bad (hs.getD k 0).toNat)) = mk N (seenA hs bad i (k + 1)) := by
  rw [Nat.mul_one, mk_set hi]
  refine mk_congr fun q h hq hh => ?_
  unfold seenA
  rw [contains_take hs k hk]
  by_cases e1 : q = i
  · subst e1
    by_cases e2 : h = (hs.getD k 0).toNat
    · have e3 : (h : Int) = hs.getD k 0 := by omega
      have e4 : (h : Int) = hs.getD k 0 := e3
      rw [if_pos ⟨rfl, e2⟩, ← e2]
      generalize hs.getD k 0 = y at e4 ⊢
      simp [e4]
    · have e3 : ¬ (h : Int) = hs.getD k 0 := by omega
      rw [if_neg (fun x => e2 x.2)]
      generalize hs.getD k 0 = y at e3 ⊢
      simp [e3]
  · rw [if_neg (fun x => e1 x.1)]
    simp [e1]
theorem seenA_next (hs bad N i) : mk N (seenA hs bad i hs.length) = mk N (seenA hs bad (i + 1) 0) := mk_congr fun q h _ _ => by
  unfold seenA
  rw [List.take_length, List.take_zero, Bool.eq_iff_iff]
  simp only [Bool.and_eq_true, Bool.or_eq_true, decide_eq_true_eq]
  constructor
  · rintro ⟨h | h, h2⟩
    · exact ⟨.inl ⟨by omega, h.2⟩, h2⟩
    · exact ⟨.inl ⟨by omega, h.2⟩, h2⟩
  · rintro ⟨h | h, h2⟩
    · by_cases e : q = i
      · exact ⟨.inr ⟨e, h.2⟩, h2⟩
      · exact ⟨.inl ⟨by omega, h.2⟩, h2⟩
    · simp at h
theorem seenA_end (b l d hs bad N) : mk N (seenA hs bad N 0) = mk N (seenC b l d hs bad []) := mk_congr fun q h hq _ => by
  simp [seenA, seenC, hq, Nat.ne_of_lt hq]

theorem seenC_skip {b l d : Int} {hs : List Int} {bad : Int} {caps : List Cp} {N k : Nat} (hk : k < caps.length) (h : ¬ (caps.getD k (0, 0, ())).1 ∈ hs) : mk N (seenC b l d hs bad (caps.take k)) = mk N (seenC b l d hs bad (caps.take (k + 1))) :=
  mk_congr fun q x _ _ => by
    rw [take_snoc (0, 0, ()) caps k hk]
    unfold seenC
    rw [List.any_append]
    by_cases e : (caps.getD k (0, 0, ())).1 = (x : Int)
    · have : hs.contains (x : Int) = false := by rw [← e]; simpa using h
      rw [this]; simp
    · generalize caps.getD k (0, 0, ()) = y at e ⊢
      simp [capIn, e]
/-- in the midst of the periods of a capture -/
def seenR (b l d : Int) (hs : List Int) (bad : Int) (caps : List Cp) (x : Cp) (n : Nat) (q h : Nat) : Bool := seenC b l d hs bad caps q h || decide (x.1 = h) && ((atL b l d x.2.1).take n).contains (q : Int)
theorem seenR_zero (b l d hs bad caps x N) : mk N (seenR b l d hs bad caps x 0) = mk N (seenC b l d hs bad caps) := mk_congr fun q h _ _ => by simp [seenR]
theorem seenR_step {b l d : Int} {hs : List Int} {bad : Int} {caps : List Cp} {x : Cp} {n N : Nat} {v : Bool} (hv : v = true) (hx : x.1 ∈ hs) (h0 : 0 ≤ x.1) (h1 : x.1 ≤ 11) (hn : n < (atL b l d x.2.1).length) (hq0 : 0 ≤ (atL b l d x.2.1).getD n 0) (hq1 : ((atL b l d x.2.1).getD n 0).toNat < N) (e : List Bool) :
    (mk N (seenR b l d hs bad caps x n)).set ((atL b l d x.2.1).getD n 0).toNat (((mk N (seenR b l d hs bad caps x n)).getD ((atL b l d x.2.1).getD n 0).toNat e).set (x.1.toNat * 1) v) = mk N (seenR b l d hs bad caps x (n + 1)) := by
  subst hv
  rw [Nat.mul_one, mk_set hq1]
  refine mk_congr fun q h hq hh => ?_
  unfold seenR
  rw [contains_take _ n hn]
  by_cases e1 : q = ((atL b l d x.2.1).getD n 0).toNat
  · have e3 : (q : Int) = (atL b l d x.2.1).getD n 0 := by omega
    by_cases e2 : h = x.1.toNat
    · have e4 : x.1 = (h : Int) := by omega
      rw [if_pos ⟨e1, e2⟩]
      simp [e4, e3]
    · have e4 : ¬ x.1 = (h : Int) := by omega
      rw [if_neg (fun x => e2 x.2)]
      simp [e4]
  · have e3 : ¬ (q : Int) = (atL b l d x.2.1).getD n 0 := by omega
    rw [if_neg (fun x => e1 x.1)]
    simp only [e3, decide_false, Bool.or_false]
theorem seenR_end {b l d : Int} {hs : List Int} {bad : Int} {caps : List Cp} {k N : Nat} (hk : k < caps.length) (hc : cntL b l d = N) (hx : (caps.getD k (0, 0, ())).1 ∈ hs) :
    mk N (seenR b l d hs bad (caps.take k) (caps.getD k (0, 0, ())) (atL b l d (caps.getD k (0, 0, ())).2.1).length) = mk N (seenC b l d hs bad (caps.take (k + 1))) := mk_congr fun q h hq _ => by
  rw [take_snoc (0, 0, ()) caps k hk]
  unfold seenR seenC
  rw [List.take_length, List.any_append]
  have e : (atL b l d (caps.getD k (0, 0, ())).2.1).contains (q : Int) = exB b l d (caps.getD k (0, 0, ())).2.1 q := by
    rw [Bool.eq_iff_iff, List.contains_iff_mem]
    unfold atL
    rw [atG_mem]
    constructor
    · exact fun h => h.2.2
    · exact fun h => ⟨by omega, by omega, h⟩
  rw [e]
  generalize caps.getD k (0, 0, ()) = y at hx ⊢
  by_cases e2 : y.1 = (h : Int)
  · have : hs.contains (h : Int) = true := by rw [← e2]; simpa using hx
    rw [this]; simp [capIn, e2, Bool.or_assoc]
  · simp [capIn, e2]

/-- how many are true -/
def cntF (f : Nat → Bool) : Nat → Nat
  | 0 => 0
  | k + 1 => cntF f k + (if f k = true then 1 else 0)
theorem cntF_congr {f g : Nat → Bool} : ∀ {k : Nat}, (∀ i, i < k → f i = g i) → cntF f k = cntF g k
  | 0, _ => rfl
  | k + 1, h => by rw [cntF, cntF, cntF_congr fun i hi => h i (by omega), h k (by omega)]
theorem cntF_le (f : Nat → Bool) : ∀ k, cntF f k ≤ k
  | 0 => Nat.le_refl _
  | k + 1 => by have := cntF_le f k; rw [cntF]; split <;> omega
/-- the set of those that are true -/
def setF2 (f : Nat → Bool) : Nat → Nat
  | 0 => 0
  | k + 1 => setF2 f k + (if f k = true then 2 ^ k else 0)
theorem setF2_lt (f : Nat → Bool) : ∀ k, setF2 f k < 2 ^ k
  | 0 => by simp [setF2]
  | k + 1 => by have := setF2_lt f k; rw [setF2, Nat.pow_succ]; split <;> omega
theorem setF2_or (f : Nat → Bool) (k : Nat) : setF2 f k ||| 2 ^ k = setF2 f k + 2 ^ k := by
  have := Nat.two_pow_add_eq_or_of_lt (setF2_lt f k) 1
  rw [Nat.mul_one] at this
  rw [Nat.add_comm, this, Nat.or_comm]
theorem setF2_congr {f g : Nat → Bool} : ∀ {k : Nat}, (∀ i, i < k → f i = g i) → setF2 f k = setF2 g k
  | 0, _ => rfl
  | k + 1, h => by rw [setF2, setF2, setF2_congr fun i hi => h i (by omega), h k (by omega)]
theorem setF2_bound (f : Nat → Bool) {k : Nat} (h : k ≤ 12) : setF2 f k < 4096 := Nat.lt_of_lt_of_le (setF2_lt f k) (Nat.pow_le_pow_right (by omega) h)

def telP (b l d m : Int) (hs : List Int) (bad : Int) (caps : List Cp) (q : Nat) : Bool := decide (m ≤ (cntF (seenC b l d hs bad caps q) 12 : Int))
def telG (b l d m : Int) (hs : List Int) (bad : Int) (caps : List Cp) (k : Nat) : List Int := ((List.range k).filter (telP b l d m hs bad caps)).map Int.ofNat
theorem telG_succ (b l d m hs bad caps k) : telG b l d m hs bad caps (k + 1) = telG b l d m hs bad caps k ++ (if telP b l d m hs bad caps k = true then [(k : Int)] else []) := by
  unfold telG
  rw [List.range_succ, List.filter_append, List.map_append]
  split <;> simp_all
theorem telG_len (b l d m hs bad caps k) : (telG b l d m hs bad caps k).length ≤ k := by
  unfold telG
  rw [List.length_map]
  exact Nat.le_trans (List.length_filter_le _ _) (by simp)
def redL (b l d m : Int) (hs : List Int) (bad : Int) (caps : List Cp) : Int := if chkL b l d m hs = 0 then (if 0 ≤ bad ∧ bad ≤ 4095 then capL caps else 1) else chkL b l d m hs
theorem red0 {b l d m : Int} {hs : List Int} {bad : Int} {caps : List Cp} (h : redL b l d m hs bad caps = 0) : Cal b l d m hs ∧ 0 ≤ bad ∧ bad ≤ 4095 ∧ caps.length ≤ 500 ∧ ∀ x ∈ caps, capB x = true := by
  unfold redL at h
  split at h
  · rename_i h1
    split at h
    · rename_i h2; exact ⟨chk0 h1, h2.1, h2.2, cap0 h⟩
    · omega
  · contradiction
def telL (b l d m : Int) (hs : List Int) (bad : Int) (caps : List Cp) : List Int := if redL b l d m hs bad caps = 0 then telG b l d m hs bad caps (cntL b l d).toNat else []
def senL (b l d m : Int) (hs : List Int) (caps : List Cp) (q : Int) : Int := if chkL b l d m hs = 0 ∧ capL caps = 0 ∧ askL b l d m hs q = 0 then (setF2 (seenC b l d hs 0 caps q.toNat) 12 : Int) else 0
def senE (b l d m : Int) (hs : List Int) (caps : List Cp) (q : Int) : Int := if chkL b l d m hs = 0 then (if capL caps = 0 then askL b l d m hs q else capL caps) else chkL b l d m hs
end Go.Proofs.YtogipicegdbhdaaDoor.S40c

namespace Go.Proofs.YtogipicegdbhdaaDoor.S40c
open Go Go.Proofs.YtogipicegdbhdaaDoor.Vc Go.Proofs
set_option maxRecDepth 100000
set_option linter.unusedVariables false
open Go.Proofs.YtogipicegdbhdaaDoor.S40
def sIdx : List V → Option (Prop × V × List Blk)
  | [.sl false (.int .i64) s, .int .i64 x] => some (s.length ≤ 2000000, .int .i64 (idxF x s 0), [])
  | _ => none
set_option maxHeartbeats 1000000 in
theorem bIdx (s : List Int) (x : Int) (hp0 : s.length ≤ 2000000) : bodyP (En CAsk tys G6 QZCo2) Tryd.f47 [.k] [.sl false (.int .i64) s, .int .i64 x] (.int .i64 (idxF x s 0)) [] := by
  refine ⟨0, [(0, .k), (1, .k), (7, .k), (8, .k)], fun nM vs H => ∃ (k : Nat), k ≤ s.length ∧ idxF x (s.drop k) k = idxF x s 0 ∧ nM = s.length - k ∧ vs = [.sl false (.int .i64) s, .int .i64 x, .int .i64 (s.length : Int), .int .i64 (k : Int)] ∧ H = [], ⟨rfl, s.length, 0, by omega, rfl, by omega, rfl, rfl⟩, ?_⟩
  rintro nM vs H ⟨k, hc1_0, hc1_1, rfl, rfl, rfl⟩
  refine ⟨fun h0 => ?_, fun h0 => ?_⟩
  · replace h0 : (k : Int) < (s.length : Int) := h0
    rw [drop_one 0 s k (by omega), idxF] at hc1_1
    refine ⟨⟨by show (0 : Int) ≤ (k : Int); omega, by show (k : Int) < (s.length : Int); omega⟩, fun h1 => ?_, fun h1 => ?_⟩
    · replace h1 : x = (s.getD k 0) := h1
      rw [if_pos h1] at hc1_1
      rw [← hc1_1]
      exact ⟨rfl, rfl, rfl, rfl⟩
    · replace h1 : ¬ (x = (s.getD k 0)) := h1
      rw [if_neg h1] at hc1_1
      refine ⟨⟨by show (-9223372036854775808 : Int) ≤ ((k : Int) + 1); omega, by show ((k : Int) + 1) ≤ (9223372036854775807 : Int); omega⟩, ?_⟩
      exact ⟨rfl, s.length - (k + 1), by omega, k + 1, by omega, hc1_1, rfl, rfl, rfl⟩
  · replace h0 : ¬ ((k : Int) < (s.length : Int)) := h0
    rw [List.drop_eq_nil_of_le (by omega), idxF] at hc1_1
    rw [← hc1_1]
    exact ⟨rfl, rfl, rfl, rfl⟩
def CIdx : List (Nat × Con) := (47, pureC [.v (.sl (.int .i64)), .v (.int .i64)] sIdx) :: CAsk
theorem kIdx : Known Tryd.prog (En CIdx tys G6 QZCo2) := kAsk.add Tryd.func47 Tryd.call47 [.k] fun ds p v bs h hp => by
  unfold sIdx at h
  split at h <;> simp only [Option.some.injEq, Prod.mk.injEq, reduceCtorEq] at h
  obtain ⟨rfl, rfl, rfl⟩ := h
  exact bIdx _ _ hp
def sCts : List V → Option (Prop × V × List Blk)
  | [.sl false (.int .i64) s, .int .i64 x] => some (s.length ≤ 2000000, .b (x ∈ s), [])
  | _ => none
set_option maxHeartbeats 1000000 in
theorem bCts (s : List Int) (x : Int) (hp0 : s.length ≤ 2000000) : bodyP (En CIdx tys G6 QZCo2) Tryd.f74 [.k] [.sl false (.int .i64) s, .int .i64 x] (.b (x ∈ s)) [] := by
  refine ⟨rfl, by show s.length ≤ 2000000; first | omega | assumption, ?_⟩
  exact ⟨rfl, rfl, congrArg V.b (propext (idxF_mem x s 0 (by omega))), rfl⟩
def CCts : List (Nat × Con) := (74, pureC [.v (.sl (.int .i64)), .v (.int .i64)] sCts) :: CIdx
theorem kCts : Known Tryd.prog (En CCts tys G6 QZCo2) := kIdx.add Tryd.func74 Tryd.call74 [.k] fun ds p v bs h hp => by
  unfold sCts at h
  split at h <;> simp only [Option.some.injEq, Prod.mk.injEq, reduceCtorEq] at h
  obtain ⟨rfl, rfl, rfl⟩ := h
  exact bCts _ _ hp
def sCap : List V → Option (Prop × V × List Blk)
  | [.sl false (.cons (.int .i64) (.cons (.int .i64) .nil)) a] => some (a.length ≤ 2000000, .int .i64 (capL a), [])
  | _ => none
set_option maxHeartbeats 1000000 in
theorem bCap (a : List (Int × (Int × Unit))) (hp0 : a.length ≤ 2000000) : bodyP (En CCts tys G6 QZCo2) Tryd.f39 [.k] [.sl false (.cons (.int .i64) (.cons (.int .i64) .nil)) a] (.int .i64 (capL a)) [] := by
  refine ⟨fun h0 => ?_, fun h0 => ?_⟩
  · replace h0 : 500 < (a.length : Int) := h0
    refine ⟨rfl, rfl, ?_, rfl⟩
    unfold capL
    repeat' split
    all_goals first | rfl | omega | (exfalso; simp_all; done)
  · replace h0 : ¬ (500 < (a.length : Int)) := h0
    refine ⟨0, [(3, .k), (9, .k), (10, .k), (11, .k)], fun nM vs H => ∃ (k : Nat), k ≤ a.length ∧ (a.drop k).all capB = a.all capB ∧ nM = a.length - k ∧ vs = [.int .i64 0, .sl false (.cons (.int .i64) (.cons (.int .i64) .nil)) a, .int .i64 (a.length : Int), .int .i64 (k : Int)] ∧ H = [], ⟨rfl, a.length, 0, by omega, rfl, by omega, rfl, rfl⟩, ?_⟩
    rintro nM vs H ⟨k, hc1_0, hc1_1, rfl, rfl, rfl⟩
    refine ⟨fun h1 => ?_, fun h1 => ?_⟩
    · replace h1 : (k : Int) < (a.length : Int) := h1
      have hk : k < a.length := by omega
      refine ⟨⟨by show (0 : Int) ≤ (k : Int); omega, by show (k : Int) < (a.length : Int); omega⟩, ⟨rfl, rfl, rfl, Nat.le_of_ble_eq_true rfl⟩, rfl, rfl, rfl, trivial, fun h2 => ?_, fun h2 => ?_⟩
      · replace h2 : ¬ (¬ (0 ≤ ((a.getD k (0, (0, ()))).1) ∧ ((a.getD k (0, (0, ()))).1) ≤ 11)) := h2
        refine ⟨rfl, rfl, rfl, trivial, fun h3 => ?_, fun h3 => ?_⟩
        · replace h3 : ¬ (0 ≤ (((a.getD k (0, (0, ()))).2).1) ∧ (((a.getD k (0, (0, ()))).2).1) ≤ 1000000) := h3
          have e := all_bad (d := (0, (0, ()))) hk hc1_1 (capB_no (by omega))
          refine ⟨rfl, rfl, ?_, rfl⟩
          unfold capL
          repeat' split
          all_goals first | rfl | omega | (exfalso; simp_all; done)
        · replace h3 : ¬ (¬ (0 ≤ (((a.getD k (0, (0, ()))).2).1) ∧ (((a.getD k (0, (0, ()))).2).1) ≤ 1000000)) := h3
          refine ⟨⟨by show (-9223372036854775808 : Int) ≤ ((k : Int) + 1); omega, by show ((k : Int) + 1) ≤ (9223372036854775807 : Int); omega⟩, ?_⟩
          exact ⟨rfl, a.length - (k + 1), by omega, k + 1, by omega, all_next (d := (0, (0, ()))) hk hc1_1 (capB_yes (by omega)), rfl, rfl, rfl⟩
      · replace h2 : ¬ (0 ≤ ((a.getD k (0, (0, ()))).1) ∧ ((a.getD k (0, (0, ()))).1) ≤ 11) := h2
        have e := all_bad (d := (0, (0, ()))) hk hc1_1 (capB_no (by omega))
        refine ⟨rfl, rfl, ?_, rfl⟩
        unfold capL
        repeat' split
        all_goals first | rfl | omega | (exfalso; simp_all; done)
    · replace h1 : ¬ ((k : Int) < (a.length : Int)) := h1
      have e := all_end (by omega) hc1_1
      refine ⟨rfl, rfl, ?_, rfl⟩
      unfold capL
      repeat' split
      all_goals first | rfl | omega | (exfalso; simp_all; done)
def CCap : List (Nat × Con) := (39, pureC [.v (.sl (.cons (.int .i64) (.cons (.int .i64) .nil)))] sCap) :: CCts
theorem kCap : Known Tryd.prog (En CCap tys G6 QZCo2) := kCts.add Tryd.func39 Tryd.call39 [.k] fun ds p v bs h hp => by
  unfold sCap at h
  split at h <;> simp only [Option.some.injEq, Prod.mk.injEq, reduceCtorEq] at h
  obtain ⟨rfl, rfl, rfl⟩ := h
  exact bCap _ hp
def sAt : List V → Option (Prop × Nat × (Nat → List V))
  | [.rp false (.int .i64) t 0, .rp false (.cons (.int .i64) (.cons (.int .i64) (.cons (.int .i64) (.cons (.int .i64) (.cons (.sl (.int .i64)) .nil))))) c 0] => some (Cal c.1 c.2.1 c.2.2.1 c.2.2.2.1 c.2.2.2.2.1 ∧ 0 ≤ t ∧ t ≤ 1000000, ((atL c.1 c.2.1 c.2.2.1 t).length, fun n => [.int .i64 ((atL c.1 c.2.1 c.2.2.1 t).getD n 0)]))
  | _ => none
set_option maxHeartbeats 1000000 in
theorem bAt (t : Int) (c : (Int × (Int × (Int × (Int × (List Int × Unit)))))) (hp0 : Cal c.1 c.2.1 c.2.2.1 c.2.2.2.1 c.2.2.2.2.1) (hp1 : 0 ≤ t) (hp2 : t ≤ 1000000) : bodyS (En CCap tys G6 QZCo2).inR Tryd.f94 [.rp false (.int .i64) t 0, .rp false (.cons (.int .i64) (.cons (.int .i64) (.cons (.int .i64) (.cons (.int .i64) (.cons (.sl (.int .i64)) .nil))))) c 0] [.v (.int .i64)] ((atL c.1 c.2.1 c.2.2.1 t).length, fun n => [.int .i64 ((atL c.1 c.2.1 c.2.2.1 t).getD n 0)]) := by
  obtain ⟨q1, q2, q3, q4, q5, q6, q7, q8, q9, q10, q11⟩ := id hp0
  have hst := at_start (b := c.1) (l := c.2.1) (t := t) q4 (by omega)
  obtain ⟨q0, hq0⟩ : ∃ q0 : Nat, max 0 (Int.tdiv (t - 2 - c.1) c.2.2.1) = (q0 : Int) := ⟨(max 0 (Int.tdiv (t - 2 - c.1) c.2.2.1)).toNat, by omega⟩
  rw [hq0] at hst
  refine ⟨rfl, ⟨by show (-9223372036854775808 : Int) ≤ (t - 2); omega, by show (t - 2) ≤ (9223372036854775807 : Int); omega⟩, ⟨by show (-9223372036854775808 : Int) ≤ ((t - 2) - c.1); omega, by show ((t - 2) - c.1) ≤ (9223372036854775807 : Int); omega⟩, .inr (.inr ⟨by show (0 : Int) < c.2.2.1; omega, ?_⟩)⟩
  refine ⟨0, [(0, .k), (1, .k), (2, .k), (4, .k)], fun nM vs H => ∃ (k q : Nat), k ≤ (atL c.1 c.2.1 c.2.2.1 t).length ∧ (atL c.1 c.2.1 c.2.2.1 t).drop k = atG c.1 c.2.1 c.2.2.1 t (cntL c.1 c.2.1 c.2.2.1 - q).toNat q ∧ nM = (cntL c.1 c.2.1 c.2.2.1).toNat - q ∧ vs = [.yld (some k), .rp false (.int .i64) t 0, .rp false (.cons (.int .i64) (.cons (.int .i64) (.cons (.int .i64) (.cons (.int .i64) (.cons (.sl (.int .i64)) .nil))))) c 0, .int .i64 (q : Int)] ∧ H = [], ⟨rfl, (cntL c.1 c.2.1 c.2.2.1).toNat - q0, 0, q0, by omega, hst, by omega, by rw [← hq0]; rfl, rfl⟩, ?_⟩
  rintro nM vs H ⟨k, q, hc1_0, hc1_1, rfl, rfl, rfl⟩
  refine ⟨rfl, rfl, rfl, rfl, ⟨by show 0 ≤ c.1; first | omega | assumption, by show c.1 ≤ c.2.1; first | omega | assumption, by show c.2.1 ≤ 1000000; first | omega | assumption, by show 1 ≤ c.2.2.1; first | omega | assumption⟩, fun h0 => ?_, fun h0 => ?_⟩
  · replace h0 : (q : Int) < (cntL c.1 c.2.1 c.2.2.1) := h0
    obtain ⟨f, hf⟩ : ∃ f : Nat, (cntL c.1 c.2.1 c.2.2.1 - q).toNat = f + 1 := ⟨(cntL c.1 c.2.1 c.2.2.1 - q).toNat - 1, by omega⟩
    have hf2 : (cntL c.1 c.2.1 c.2.2.1 - ((q + 1 : Nat) : Int)).toNat = f := by omega
    rw [hf] at hc1_1
    refine ⟨rfl, rfl, rfl, rfl, rfl, ⟨by show 0 ≤ c.1; first | omega | assumption, by show c.1 ≤ c.2.1; first | omega | assumption, by show c.2.1 ≤ 1000000; first | omega | assumption, by show 1 ≤ c.2.2.1; first | omega | assumption, by show c.2.2.1 ≤ 1000000; first | omega | assumption, by show 0 ≤ (q : Int); first | omega | assumption, by show (q : Int) < cntL c.1 c.2.1 c.2.2.1; first | omega | assumption⟩, fun h1 => ?_, fun h1 => ?_⟩
    · replace h1 : t < (expF c.1 c.2.2.1 (q : Int)) := h1
      rw [atG_nil _ _ _ _ _ _ fun x g1 _ => at_late q4 h1 g1] at hc1_1
      have hz := drop_nil hc1_0 hc1_1
      show (k : Nat) = (atL c.1 c.2.1 c.2.2.1 t).length
      omega
    · replace h1 : ¬ (t < (expF c.1 c.2.2.1 (q : Int))) := h1
      refine ⟨fun h2 => ?_, fun h2 => ?_⟩
      · replace h2 : t ≤ (expT c.1 c.2.1 c.2.2.1 (q : Int)) := h2
        have hx : exB c.1 c.2.1 c.2.2.1 t q = true := decide_eq_true ⟨by omega, h2⟩
        rw [atG, if_pos hx] at hc1_1
        obtain ⟨y1, y2, y3⟩ := drop_cons (d := 0) hc1_1
        refine ⟨rfl, ⟨y1, by show [V.int .i64 (q : Int)] = [V.int .i64 ((atL c.1 c.2.1 c.2.2.1 t).getD k 0)]; rw [y2]⟩, ?_, ?_⟩
        · refine ⟨⟨by show (-9223372036854775808 : Int) ≤ ((q : Int) + 1); omega, by show ((q : Int) + 1) ≤ (9223372036854775807 : Int); omega⟩, ?_⟩
          exact ⟨rfl, (cntL c.1 c.2.1 c.2.2.1).toNat - (q + 1), by omega, k + 1, q + 1, by omega, by rw [y3, hf2]; rfl, rfl, rfl, rfl⟩
        · trivial
      · replace h2 : ¬ (t ≤ (expT c.1 c.2.1 c.2.2.1 (q : Int))) := h2
        have hx : ¬ exB c.1 c.2.1 c.2.2.1 t q = true := by unfold exB; rw [decide_eq_true_eq]; omega
        rw [atG, if_neg hx] at hc1_1
        refine ⟨⟨by show (-9223372036854775808 : Int) ≤ ((q : Int) + 1); omega, by show ((q : Int) + 1) ≤ (9223372036854775807 : Int); omega⟩, ?_⟩
        exact ⟨rfl, (cntL c.1 c.2.1 c.2.2.1).toNat - (q + 1), by omega, k, q + 1, by omega, by rw [hc1_1, hf2]; rfl, rfl, rfl, rfl⟩
  · replace h0 : ¬ ((q : Int) < (cntL c.1 c.2.1 c.2.2.1)) := h0
    rw [show (cntL c.1 c.2.1 c.2.2.1 - (q : Int)).toNat = 0 by omega, atG] at hc1_1
    have hz := drop_nil hc1_0 hc1_1
    show (k : Nat) = (atL c.1 c.2.1 c.2.2.1 t).length
    omega
def QAt : List (Nat × SeqC) := (94, [.ref (.int .i64), .ref (.cons (.int .i64) (.cons (.int .i64) (.cons (.int .i64) (.cons (.int .i64) (.cons (.sl (.int .i64)) .nil)))))], sAt) :: QZCo2
def CAt : List (Nat × Con) := CCap
theorem kAt : Known Tryd.prog (En CAt tys G6 QAt) := kCap.addSeq Tryd.func94 Tryd.call94 [.v (.int .i64)] fun ds p L h hp => by
  unfold sAt at h
  split at h <;> simp only [Option.some.injEq, Prod.mk.injEq, reduceCtorEq] at h
  obtain ⟨rfl, rfl⟩ := h
  exact bAt _ _ hp.1 hp.2.1 hp.2.2
def sAtt : List V → Option (Prop × V × List Blk)
  | [.agg [.int .i64 b, .int .i64 l, .int .i64 d, .int .i64 m, .sl false (.int .i64) hs], .int .i64 t] => some (True, .fn 94 [.ptr 0 1 0 0, .ptr 1 1 0 0], [.cells [.int .i64 (t)], .cells [.int .i64 (b), .int .i64 (l), .int .i64 (d), .int .i64 (m), .sl false (.int .i64) (hs)]])
  | _ => none
set_option maxHeartbeats 1000000 in
theorem bAtt (b : Int) (l : Int) (d : Int) (m : Int) (hs : List Int) (t : Int)  : bodyI (En CAt tys G6 QAt) Tryd.f75 [.c []] [.agg [.int .i64 b, .int .i64 l, .int .i64 d, .int .i64 m, .sl false (.int .i64) hs], .int .i64 t] (.fn 94 [.ptr 0 1 0 0, .ptr 1 1 0 0]) [.cells [.int .i64 (t)], .cells [.int .i64 (b), .int .i64 (l), .int .i64 (d), .int .i64 (m), .sl false (.int .i64) (hs)]] := by
  exact ⟨rfl, rfl, rfl, rfl⟩
def CAtt : List (Nat × Con) := (75, immC [.v (.cons (.int .i64) (.cons (.int .i64) (.cons (.int .i64) (.cons (.int .i64) (.cons (.sl (.int .i64)) .nil))))), .v (.int .i64)] sAtt) :: CAt
theorem kAtt : Known Tryd.prog (En CAtt tys G6 QAt) := kAt.addI Tryd.func75 Tryd.call75 [.c []] fun ds p v bs h hp => by
  unfold sAtt at h
  split at h <;> simp only [Option.some.injEq, Prod.mk.injEq, reduceCtorEq] at h
  obtain ⟨rfl, rfl, rfl⟩ := h
  exact bAtt _ _ _ _ _ _
def sMany : List V → Option (Prop × V × List Blk)
  | [.dat false (.arr 12 .bool) x] => some (x.length = 12, .int .i64 (cntF (fun i => x.getD i false) 12 : Int), [])
  | _ => none
set_option maxHeartbeats 1000000 in
theorem bMany (x : List Bool) (hp0 : x.length = 12) : bodyP (En CAtt tys G6 QAt) Tryd.f38 [.k] [.dat false (.arr 12 .bool) x] (.int .i64 (cntF (fun i => x.getD i false) 12 : Int)) [] := by
  refine ⟨⟨rfl, by first | assumption | rfl | simp⟩, by first | assumption | rfl | simp, 1, [(3, .k), (6, .k), (7, .k)], fun nM vs H => ∃ (k : Nat), k ≤ 12 ∧ nM = 12 - k ∧ vs = [.int .i64 (cntF (fun i => x.getD i false) k : Int), .dat true (.arr 12 .bool) x, .int .i64 (k : Int)] ∧ H = [.row true .bool x], ⟨rfl, 12, 0, by omega, by omega, rfl, rfl⟩, ?_⟩
  rintro nM vs H ⟨k, hc1_0, rfl, rfl, rfl⟩
  have hle := cntF_le (fun i => x.getD i false) k
  have hsu : cntF (fun i => x.getD i false) (k + 1) = cntF (fun i => x.getD i false) k + (if x.getD k false = true then 1 else 0) := rfl
  refine ⟨fun h0 => ?_, fun h0 => ?_⟩
  · replace h0 : (k : Int) < 12 := h0
    refine ⟨⟨by show (0 : Int) ≤ (k : Int); omega, by show (k : Int) < (12 : Int); omega⟩, fun h1 => ?_, fun h1 => ?_⟩
    · replace h1 : (x.getD k false) = true := h1
      refine ⟨⟨by show (-9223372036854775808 : Int) ≤ ((cntF (fun i => x.getD i false) k : Int) + 1); omega, by show ((cntF (fun i => x.getD i false) k : Int) + 1) ≤ (9223372036854775807 : Int); omega⟩, ⟨by show (-9223372036854775808 : Int) ≤ ((k : Int) + 1); omega, by show ((k : Int) + 1) ≤ (9223372036854775807 : Int); omega⟩, ?_⟩
      first | rw [if_pos h1] at hsu | rw [if_neg h1] at hsu
      exact ⟨rfl, 12 - (k + 1), by omega, k + 1, by omega, rfl, by rw [hsu]; rfl, rfl⟩
    · replace h1 : ¬ ((x.getD k false) = true) := h1
      refine ⟨⟨by show (-9223372036854775808 : Int) ≤ ((k : Int) + 1); omega, by show ((k : Int) + 1) ≤ (9223372036854775807 : Int); omega⟩, ?_⟩
      first | rw [if_pos h1] at hsu | rw [if_neg h1] at hsu
      exact ⟨rfl, 12 - (k + 1), by omega, k + 1, by omega, rfl, by rw [hsu]; rfl, rfl⟩
  · replace h0 : ¬ ((k : Int) < 12) := h0
    obtain rfl : k = 12 := by omega
    exact ⟨rfl, rfl, rfl, rfl⟩
def CMany : List (Nat × Con) := (38, pureC [.v (.arr 12 .bool)] sMany) :: CAtt
theorem kMany : Known Tryd.prog (En CMany tys G6 QAt) := kAtt.add Tryd.func38 Tryd.call38 [.k] fun ds p v bs h hp => by
  unfold sMany at h
  split at h <;> simp only [Option.some.injEq, Prod.mk.injEq, reduceCtorEq] at h
  obtain ⟨rfl, rfl, rfl⟩ := h
  exact bMany _ hp
def sSeen : List V → Option (Prop × V × List Blk)
  | [.agg [.int .i64 b, .int .i64 l, .int .i64 d, .int .i64 m, .sl false (.int .i64) hs], .int .i64 bad, .sl false (.cons (.int .i64) (.cons (.int .i64) .nil)) a] => some (Cal b l d m hs ∧ 0 ≤ bad ∧ a.length ≤ 500 ∧ ∀ x ∈ a, capB x = true, .own (.arr 12 .bool) 0, [.row true (.arr 12 .bool) (mk (cntL b l d).toNat (seenC b l d hs bad a))])
  | _ => none
set_option maxHeartbeats 1000000 in
theorem bSeen (b : Int) (l : Int) (d : Int) (m : Int) (hs : List Int) (bad : Int) (a : List (Int × (Int × Unit))) (hp0 : Cal b l d m hs) (hp1 : 0 ≤ bad) (hp2 : a.length ≤ 500) (hp3 : ∀ x ∈ a, capB x = true) : bodyP (En CMany tys G6 QAt) Tryd.f37 [.o (.arr 12 .bool)] [.agg [.int .i64 b, .int .i64 l, .int .i64 d, .int .i64 m, .sl false (.int .i64) hs], .int .i64 bad, .sl false (.cons (.int .i64) (.cons (.int .i64) .nil)) a] (.own (.arr 12 .bool) 0) [.row true (.arr 12 .bool) (mk (cntL b l d).toNat (seenC b l d hs bad a))] := by
  obtain ⟨q1, q2, q3, q4, q5, q6, q7, q8, q9, q10, q11⟩ := id hp0
  obtain ⟨N, hN⟩ : ∃ N : Nat, cntL b l d = (N : Int) := ⟨(cntL b l d).toNat, by omega⟩
  have hRl : (List.replicate ((cntL b l d).toNat) (List.replicate 12 false)).length = N := by rw [List.length_replicate, hN]; rfl
  have hinit : mk N (seenA hs bad 0 0) = List.replicate ((cntL b l d).toNat) (List.replicate 12 false) := by rw [seenA_zero, ← mk_zero, hN]; rfl
  refine ⟨rfl, rfl, rfl, rfl, ⟨by show 0 ≤ b; first | omega | assumption, by show b ≤ l; first | omega | assumption, by show l ≤ 1000000; first | omega | assumption, by show 1 ≤ d; first | omega | assumption⟩, ⟨rfl, by show (0 : Int) ≤ cntL b l d; omega, by show cntL b l d ≤ (1000000000 : Int); omega⟩, ⟨rfl, rfl, rfl⟩, 3, [(1, .k), (2, .k), (3, .k), (7, .k), (18, .k), (19, .k)], fun nM vs H => ∃ (i : Nat), i ≤ N ∧ nM = N - i ∧ vs = [.int .i64 bad, .sl false (.cons (.int .i64) (.cons (.int .i64) .nil)) a, .ptr 0 1 0 0, .ptr 2 1 0 0, .int .i64 (((List.replicate ((cntL b l d).toNat) (List.replicate 12 false)).length : Nat) : Int), .int .i64 (i : Int)] ∧ H = [.cells [.int .i64 b, .int .i64 l, .int .i64 d, .int .i64 m, .sl false (.int .i64) hs], .row true (.arr 12 .bool) (mk N (seenA hs bad i 0)), .cells [.own (.arr 12 .bool) 1]], ⟨rfl, N, 0, by omega, by omega, rfl, by rw [hinit]; rfl⟩, ?_⟩
  rintro nM vs H ⟨i, hc1_0, rfl, rfl, rfl⟩
  refine ⟨fun h0 => ?_, fun h0 => ?_⟩
  · replace h0 : (i : Int) < (((List.replicate ((cntL b l d).toNat) (List.replicate 12 false)).length : Nat) : Int) := h0
    refine ⟨3, [(1, .k), (2, .k), (3, .k), (7, .k), (8, .k), (18, .k), (19, .k), (23, .k), (24, .k), (25, .k)], fun nM vs H => ∃ (k : Nat), k ≤ hs.length ∧ nM = hs.length - k ∧ vs = [.int .i64 bad, .sl false (.cons (.int .i64) (.cons (.int .i64) .nil)) a, .ptr 0 1 0 0, .ptr 2 1 0 0, .int .i64 (i : Int), .int .i64 (((List.replicate ((cntL b l d).toNat) (List.replicate 12 false)).length : Nat) : Int), .int .i64 (i : Int), .sl false (.int .i64) hs, .int .i64 (hs.length : Int), .int .i64 (k : Int)] ∧ H = [.cells [.int .i64 b, .int .i64 l, .int .i64 d, .int .i64 m, .sl false (.int .i64) hs], .row true (.arr 12 .bool) (mk N (seenA hs bad i k)), .cells [.own (.arr 12 .bool) 1]], ⟨rfl, hs.length, 0, by omega, by omega, rfl, rfl⟩, ?_⟩
    rintro nM vs H ⟨k, hc2_0, rfl, rfl, rfl⟩
    refine ⟨fun h1 => ?_, fun h1 => ?_⟩
    · replace h1 : (k : Int) < (hs.length : Int) := h1
      have hkl : k < hs.length := by omega
      obtain ⟨g0, g1⟩ := hsF_at hs _ k q8 hkl
      have g2 := sh_nonneg hp1 (hs.getD k 0).toNat
      have hiN : i < N := by omega
      have hml := mk_len N (seenA hs bad i k)
      refine ⟨⟨by show (0 : Int) ≤ (k : Int); omega, by show (k : Int) < (hs.length : Int); omega⟩, by kernel_rfl, ⟨by show (0 : Int) ≤ hs.getD k 0; omega, by show hs.getD k 0 ≤ (64 : Int); omega⟩, .inl ⟨⟨by show (0 : Int) ≤ (bad / 2 ^ ((hs.getD k 0).toNat)); omega, by show (0 : Int) ≤ 1; omega⟩, ?_⟩⟩
      refine ⟨⟨by show (0 : Int) ≤ (i : Int); omega, by show (i : Int) < ((mk N (seenA hs bad i k)).length : Int); omega⟩, ⟨by show (0 : Int) ≤ hs.getD k 0; omega, by show hs.getD k 0 < (12 : Int); omega⟩, ⟨rfl, rfl⟩, ⟨by show (-9223372036854775808 : Int) ≤ ((k : Int) + 1); omega, by show ((k : Int) + 1) ≤ (9223372036854775807 : Int); omega⟩, ?_⟩
      exact ⟨rfl, hs.length - (k + 1), by omega, k + 1, by omega, rfl, rfl, by rw [← seenA_step hkl g0 g1 hiN (List.replicate 12 false), ← bit_store hp1]; rfl⟩
    · replace h1 : ¬ ((k : Int) < (hs.length : Int)) := h1
      have hk : k = hs.length := by omega
      refine ⟨⟨by show (-9223372036854775808 : Int) ≤ ((i : Int) + 1); omega, by show ((i : Int) + 1) ≤ (9223372036854775807 : Int); omega⟩, ?_⟩
      exact ⟨rfl, N - (i + 1), by omega, i + 1, by omega, rfl, rfl, by rw [hk, seenA_next]; rfl⟩
  · replace h0 : ¬ ((i : Int) < (((List.replicate ((cntL b l d).toNat) (List.replicate 12 false)).length : Nat) : Int)) := h0
    have hi : i = N := by omega
    refine ⟨3, [(3, .k), (7, .k), (41, .k), (42, .k), (43, .k)], fun nM vs H => ∃ (k : Nat), k ≤ a.length ∧ nM = a.length - k ∧ vs = [.ptr 0 1 0 0, .ptr 2 1 0 0, .sl false (.cons (.int .i64) (.cons (.int .i64) .nil)) a, .int .i64 (a.length : Int), .int .i64 (k : Int)] ∧ H = [.cells [.int .i64 b, .int .i64 l, .int .i64 d, .int .i64 m, .sl false (.int .i64) hs], .row true (.arr 12 .bool) (mk N (seenC b l d hs bad (a.take k))), .cells [.own (.arr 12 .bool) 1]], ⟨rfl, a.length, 0, by omega, by omega, rfl, by rw [hi, List.take_zero, ← seenA_end]; rfl⟩, ?_⟩
    rintro nM vs H ⟨k, hc3_0, rfl, rfl, rfl⟩
    refine ⟨fun h2 => ?_, fun h2 => ?_⟩
    · replace h2 : (k : Int) < (a.length : Int) := h2
      have hka : k < a.length := by omega
      have hcb := capB_ok (hp3 _ (getD_mem (0, (0, ())) a k hka))
      refine ⟨⟨by show (0 : Int) ≤ (k : Int); omega, by show (k : Int) < (a.length : Int); omega⟩, ⟨rfl, rfl, rfl, Nat.le_of_ble_eq_true rfl⟩, rfl, by show hs.length ≤ 2000000; first | omega | assumption, fun h3 => ?_, fun h3 => ?_⟩
      · replace h3 : ¬ (((a.getD k (0, (0, ()))).1) ∈ hs) := h3
        refine ⟨⟨by show (-9223372036854775808 : Int) ≤ ((k : Int) + 1); omega, by show ((k : Int) + 1) ≤ (9223372036854775807 : Int); omega⟩, ?_⟩
        first
        | exact ⟨rfl, a.length - (k + 1), by omega, k + 1, by omega, rfl, rfl, by rw [← seenC_skip hka h3]; rfl⟩
        | exact ⟨rfl, a.length - (k + 1), by omega, k + 1, by omega, rfl, rfl, by rw [← seenR_end hka hN hx]; rfl⟩
      · replace h3 : ¬ (¬ (((a.getD k (0, (0, ()))).1) ∈ hs)) := h3
        have hx := Classical.not_not.1 h3
        have hz : 0 ≤ cntL b l d := by omega
        refine ⟨rfl, rfl, rfl, rfl, rfl, trivial, rfl, rfl, rfl, rfl, rfl, rfl, ⟨⟨by assumption, by show 0 ≤ (((a.getD k (0, (0, ()))).2).1); first | omega | assumption, by show (((a.getD k (0, (0, ()))).2).1) ≤ 1000000; first | omega | assumption⟩, fun _ _ => rfl⟩, 4, [(3, .k), (7, .k), (12, .k), (41, .k), (42, .k), (43, .k)], fun n vs H => n ≤ (atL b l d (a.getD k (0, (0, ()))).2.1).length ∧ vs = [.ptr 0 1 0 0, .ptr 2 1 0 0, .ptr 3 1 0 0, .sl false (.cons (.int .i64) (.cons (.int .i64) .nil)) a, .int .i64 (a.length : Int), .int .i64 (k : Int)] ∧ H = [.cells [.int .i64 b, .int .i64 l, .int .i64 d, .int .i64 m, .sl false (.int .i64) hs], .row true (.arr 12 .bool) (mk N (seenR b l d hs bad (a.take k) (a.getD k (0, (0, ()))) n)), .cells [.own (.arr 12 .bool) 1], .cells [.int .i64 ((a.getD k (0, (0, ()))).1), .int .i64 (((a.getD k (0, (0, ()))).2).1)]], ⟨rfl, by omega, rfl, by rw [seenR_zero]; rfl⟩, ?_, ?_⟩
        · rintro n vs H ⟨hc4_0, rfl, rfl⟩ hn4
          replace hn4 : n < (atL b l d (((a.getD k (0, (0, ()))).2).1)).length := hn4
          replace hn4 : n < (atL b l d (a.getD k (0, (0, ()))).2.1).length := hn4
          obtain ⟨y1, y2, y3⟩ := atL_at hz hn4
          have hml := mk_len N (seenR b l d hs bad (a.take k) (a.getD k (0, (0, ()))) n)
          refine ⟨by kernel_rfl, ⟨by show (0 : Int) ≤ (atL b l d (((a.getD k (0, (0, ()))).2).1)).getD n 0; omega, by show (atL b l d (((a.getD k (0, (0, ()))).2).1)).getD n 0 < ((mk N (seenR b l d hs bad (a.take k) (a.getD k (0, (0, ()))) n)).length : Int); omega⟩, ⟨by show (0 : Int) ≤ (a.getD k (0, (0, ()))).1; omega, by show (a.getD k (0, (0, ()))).1 < (12 : Int); omega⟩, ⟨rfl, rfl⟩, ?_⟩
          exact ⟨rfl, rfl, by omega, rfl, by rw [← seenR_step (v := @decide (true = true) (Classical.propDecidable _)) (by simp) hx hcb.1 hcb.2.1 hn4 y1 (by omega) (List.replicate 12 false)]; rfl⟩
        · rintro vs H ⟨hc4_0, rfl, rfl⟩
          refine ⟨⟨by show (-9223372036854775808 : Int) ≤ ((k : Int) + 1); omega, by show ((k : Int) + 1) ≤ (9223372036854775807 : Int); omega⟩, ?_⟩
          first
          | exact ⟨rfl, a.length - (k + 1), by omega, k + 1, by omega, rfl, rfl, by rw [← seenC_skip hka h3]; rfl⟩
          | exact ⟨rfl, a.length - (k + 1), by omega, k + 1, by omega, rfl, rfl, by rw [← seenR_end hka hN hx]; rfl⟩
    · replace h2 : ¬ ((k : Int) < (a.length : Int)) := h2
      have e : mk N (seenC b l d hs bad (a.take k)) = mk (cntL b l d).toNat (seenC b l d hs bad a) := by rw [show k = a.length by omega, List.take_length, hN]; rfl
      rw [← e]
      exact ⟨rfl, rfl, rfl, rfl⟩
def CSeen : List (Nat × Con) := (37, pureC [.v (.cons (.int .i64) (.cons (.int .i64) (.cons (.int .i64) (.cons (.int .i64) (.cons (.sl (.int .i64)) .nil))))), .v (.int .i64), .v (.sl (.cons (.int .i64) (.cons (.int .i64) .nil)))] sSeen) :: CMany
theorem kSeen : Known Tryd.prog (En CSeen tys G6 QAt) := kMany.add Tryd.func37 Tryd.call37 [.o (.arr 12 .bool)] fun ds p v bs h hp => by
  unfold sSeen at h
  split at h <;> simp only [Option.some.injEq, Prod.mk.injEq, reduceCtorEq] at h
  obtain ⟨rfl, rfl, rfl⟩ := h
  exact bSeen _ _ _ _ _ _ _ hp.1 hp.2.1 hp.2.2.1 hp.2.2.2
end Go.Proofs.YtogipicegdbhdaaDoor.S40c

/- Texts of this claim: S26.P6i, S26.Pw, S26.Cd0. -/
import Derived.Test.YtakbedmeieeekaaDoorS4
import Derived.Test.YtakbedmeieeekaaDoorS1
import Derived.Test.YtakbedmeieeekaaDoorVc9
import Derived.Test.YtakbedmeieeekaaDoorCards
import Derived.Test.YtakbedmeieeekaaDoorTie
import Derived.WalkKit
import Derived.ProofKit
import Derived.OpenShut
import Derived.Deep.DeepHandedRow
import Derived.Lib.LaidTab
set_option linter.unusedVariables false
set_option linter.unusedSimpArgs false
namespace Go.Proofs.YtakbedmeieeekaaDoor.S26
open Go Go.Proofs.YtakbedmeieeekaaDoor.Vc Go.Proofs
set_option maxRecDepth 100000

/-! ### a noise for another secret -/
def upP (ps : Nat → List UInt8) (k : Nat) (p : List UInt8) : Nat → List UInt8 := fun i => if i = k then p else ps i
def nsF (ps : Nat → List UInt8) (n m k a : Nat) : List UInt8 := (List.range (n * m)).map fun j => if j % n < k ∨ (j % n = k ∧ j / n < a) then (ps (j % n)).getD (j / n + 1) 0 else 0
theorem nsF_len (ps : Nat → List UInt8) (n m k a : Nat) : (nsF ps n m k a).length = n * m := by simp [nsF]
theorem nsF_zero (ps : Nat → List UInt8) (n m : Nat) : nsF ps n m 0 0 = List.replicate (n * m) 0 := by
  apply List.ext_getElem
  · simp [nsF]
  · intro i h1 h2; simp [nsF]
theorem nsF_up (ps : Nat → List UInt8) (n m k : Nat) (p : List UInt8) : nsF (upP ps k p) n m k 0 = nsF ps n m k 0 := by
  unfold nsF
  apply List.map_congr_left
  intro j _
  have h0 := Nat.zero_le (j / n)
  by_cases h : j % n < k
  · rw [if_pos (.inl h), if_pos (.inl h), upP, if_neg (by omega)]
  · rw [if_neg (by omega), if_neg (by omega)]
theorem at_mod {n k a : Nat} (hk : k < n) : (a * n + k) % n = k ∧ (a * n + k) / n = a := by
  constructor
  · rw [Nat.mul_comm, Nat.mul_add_mod, Nat.mod_eq_of_lt hk]
  · rw [Nat.mul_comm, Nat.mul_add_div (by omega), Nat.div_eq_of_lt hk, Nat.add_zero]
theorem at_lt {n m k a : Nat} (hk : k < n) (ha : a < m) : a * n + k < n * m := by
  have := Nat.mul_le_mul_right n (show a + 1 ≤ m from ha)
  rw [Nat.succ_mul, Nat.mul_comm m n] at this
  omega
theorem at_eq {n j : Nat} (hn : 0 < n) : j / n * n + j % n = j := by rw [Nat.mul_comm]; exact Nat.div_add_mod j n
theorem nsF_set {ps : Nat → List UInt8} {n m k a : Nat} (hk : k < n) (ha : a < m) : (nsF ps n m k a).set (a * n + k) ((ps k).getD (a + 1) 0) = nsF ps n m k (a + 1) := by
  obtain ⟨e1, e2⟩ := at_mod (a := a) hk
  apply List.ext_getElem
  · simp [nsF]
  · intro i h1 h2
    rw [List.getElem_set]
    simp only [nsF, List.getElem_map, List.getElem_range]
    by_cases e : a * n + k = i
    · rw [if_pos e, ← e, e1, e2, if_pos (.inr ⟨rfl, by omega⟩)]
    · rw [if_neg e]
      have hne : ¬ (i % n = k ∧ i / n = a) := fun g => e (by rw [← g.1, ← g.2]; exact at_eq (by omega))
      by_cases g : i % n < k ∨ (i % n = k ∧ i / n < a)
      · rw [if_pos g, if_pos (by omega)]
      · rw [if_neg g, if_neg (by omega)]
theorem nsF_next {ps : Nat → List UInt8} {n m k a : Nat} (h : ∀ b, a ≤ b → (ps k).getD (b + 1) 0 = 0) : nsF ps n m k a = nsF ps n m (k + 1) 0 := by
  unfold nsF
  apply List.map_congr_left
  intro j _
  have h0 := Nat.zero_le (j / n)
  by_cases g : j % n < k ∨ (j % n = k ∧ j / n < a)
  · rw [if_pos g, if_pos (by omega)]
  · rw [if_neg g]
    by_cases e : j % n = k
    · rw [if_pos (by omega), e, h _ (by omega)]
    · rw [if_neg (by omega)]
theorem nsF_get {ps : Nat → List UInt8} {n m k a : Nat} (hk : k < n) (ha : a < m) : (nsF ps n m n 0).getD (a * n + k) 0 = (ps k).getD (a + 1) 0 := by
  obtain ⟨e1, e2⟩ := at_mod (a := a) hk
  unfold nsF
  rw [map_range_get (at_lt hk ha), e1, e2, if_pos (.inl hk)]
/-- What a polynomial for another secret has to be. -/
structure Hid (K : List (Int × List UInt8 × Unit)) (oth : List UInt8) (nd : Int) (i : Nat) (p : List UInt8) : Prop where
  z : horner 0 p = oth.getD i 0
  s : ∀ s ∈ K, horner (pt s.1) p = s.2.1.getD i 0
  len : p.length ≤ nd.toNat
def exP (c j : Nat) : List UInt8 := (List.range j).map fun i => UInt8.ofNat (100 + c + i)
theorem exP_len (c j : Nat) : (exP c j).length = j := by simp [exP]
theorem exP_snoc (c j : Nat) : exP c (j + 1) = exP c j ++ [UInt8.ofNat (100 + c + j)] := by unfold exP; rw [List.range_succ, List.map_append]; rfl
def hxL (K : List (Int × List UInt8 × Unit)) (j : Nat) : List UInt8 := [0] ++ xsL K ++ exP (K.length + 1) j
theorem hxL_len (K : List (Int × List UInt8 × Unit)) (j : Nat) : (hxL K j).length = K.length + 1 + j := by
  unfold hxL
  rw [List.length_append, List.length_append, xsL_len, exP_len, List.length_cons, List.length_nil]; omega
theorem hx_nodup {K : List (Int × List UInt8 × Unit)} (hc : ShOk K) {j : Nat} (hj : K.length + 1 + j ≤ 12) : (hxL K j).Nodup := by
  unfold hxL
  rw [List.nodup_append, List.nodup_append]
  have hx : ∀ x ∈ xsL K, 1 ≤ x.toNat ∧ x.toNat ≤ 12 := fun x hx => by
    obtain ⟨s, hs, rfl⟩ := List.mem_map.1 hx
    have h := hc.house s hs
    rw [pt_nat' h]
    obtain ⟨a, b⟩ := h
    omega
  have he : ∀ x ∈ exP (K.length + 1) j, 100 ≤ x.toNat := fun x hx => by
    obtain ⟨i, hi, rfl⟩ := List.mem_map.1 hx
    have := List.mem_range.1 hi
    rw [UInt8.toNat_ofNat', Nat.mod_eq_of_lt (by omega)]; omega
  refine ⟨⟨by simp, hc.nodup, fun x hx' y hy e => ?_⟩, ?_, fun x hx' y hy e => ?_⟩
  · rw [List.mem_singleton] at hx'
    have := (hx y hy).1
    rw [← e, hx'] at this
    exact absurd this (by decide)
  · rw [List.nodup_iff_pairwise_ne, List.pairwise_iff_getElem]
    intro a b ha hb hab e
    rw [exP_len] at ha hb
    simp only [exP, List.getElem_map, List.getElem_range] at e
    have := congrArg UInt8.toNat e
    rw [UInt8.toNat_ofNat', UInt8.toNat_ofNat', Nat.mod_eq_of_lt (by omega), Nat.mod_eq_of_lt (by omega)] at this
    omega
  · have h1 := he y hy
    rw [← e] at h1
    rcases List.mem_append.1 hx' with g | g
    · rw [List.mem_singleton] at g; rw [g] at h1; exact absurd h1 (by decide)
    · have := (hx x g).2; omega
theorem hid_ip {K : List (Int × List UInt8 × Unit)} (hc : ShOk K) {oth : List UInt8} {nd : Int} {k j : Nat} (hnd : ((K.length + 1 + j : Nat) : Int) = nd) (h12 : nd ≤ 12) {E : List UInt8} (hE : E.length = j) :
    (ipL (hxL K j) ([oth.getD k 0] ++ ysL K k ++ E)).2 = 0 ∧ Hid K oth nd k (ipL (hxL K j) ([oth.getD k 0] ++ ysL K k ++ E)).1 := by
  have hyl : ([oth.getD k 0] ++ ysL K k ++ E).length = K.length + 1 + j := by
    rw [List.length_append, List.length_append, ysL_len, hE, List.length_cons, List.length_nil]; omega
  have hr : rightP (hxL K j) ([oth.getD k 0] ++ ysL K k ++ E) := ⟨hx_nodup hc (by omega), by rw [hxL_len, hyl]⟩
  have e : ipL (hxL K j) ([oth.getD k 0] ++ ysL K k ++ E) = (lineL (hxL K j) ([oth.getD k 0] ++ ysL K k ++ E), 0) := by
    unfold ipL
    rw [if_pos hr, thr_line _ _ hr]
  rw [e]
  have hv := fun i hi => lineL_val (hxL K j) ([oth.getD k 0] ++ ysL K k ++ E) hr.1 i hi
  refine ⟨rfl, ?_, fun s hs => ?_, ?_⟩
  · have := hv 0 (by rw [hxL_len]; omega)
    exact this
  · obtain ⟨i, hi, rfl⟩ := getD_mem' (d := (0, [], ())) hs
    have := hv (i + 1) (by rw [hxL_len]; omega)
    have ex : (hxL K j).getD (i + 1) 0 = pt (K.getD i (0, [], ())).1 := by
      show ((0 : UInt8) :: (xsL K ++ exP (K.length + 1) j)).getD (i + 1) 0 = _
      rw [List.getD_cons_succ, ← xsL_get hi]
      rw [List.getD_eq_getElem?_getD, List.getElem?_append_left (by rw [xsL_len]; exact hi), List.getD_eq_getElem?_getD]
    have ey : ([oth.getD k 0] ++ ysL K k ++ E).getD (i + 1) 0 = (K.getD i (0, [], ())).2.1.getD k 0 := by
      show (oth.getD k 0 :: (ysL K k ++ E)).getD (i + 1) 0 = _
      rw [List.getD_cons_succ, ← ysL_get hi]
      rw [List.getD_eq_getElem?_getD, List.getElem?_append_left (by rw [ysL_len]; exact hi), List.getD_eq_getElem?_getD]
    rw [ex, ey] at this
    exact this
  · have h1 := lineL_sz (hxL K j) ([oth.getD k 0] ++ ysL K k ++ E)
    have h2 := sz_eq_len (lineL_trim (hxL K j) ([oth.getD k 0] ++ ysL K k ++ E))
    rw [hxL_len] at h1
    show (lineL _ _).length ≤ _
    omega
theorem horner_0 : ∀ p : List UInt8, horner 0 p = p.getD 0 0
  | [] => rfl
  | c :: p => horner_z c p
theorem pol_ns {oth : List UInt8} {nd : Int} {ps : Nat → List UInt8} {K : List (Int × List UInt8 × Unit)} (h1 : 1 ≤ nd) {k : Nat} (hk : k < oth.length) (h : Hid K oth nd k (ps k)) (x : UInt8) : horner x (polK oth (nsF ps oth.length (nd - 1).toNat oth.length 0) nd k) = horner x (ps k) := by
  apply horner_ext
  intro i
  cases i with
  | zero =>
    show oth.getD k 0 = (ps k).getD 0 0
    rw [← horner_0, h.z]
  | succ a =>
    show (cfs (nsF ps oth.length (nd - 1).toNat oth.length 0) oth.length (nd - 1).toNat k).getD a 0 = (ps k).getD (a + 1) 0
    by_cases ha : a < (nd - 1).toNat
    · rw [cfs_get ha, nsF_get hk ha]
    · have hl := h.len
      rw [List.getD_eq_getElem?_getD, List.getElem?_eq_none (by rw [cfs_len]; omega), List.getD_eq_getElem?_getD, List.getElem?_eq_none (by omega)]
theorem smK_congr {a b : List (Int × List UInt8 × Unit)} {s : Int} : ∀ k, (∀ i, i < k → s / 2 ^ i % 2 = 1 → a.getD i (0, [], ()) = b.getD i (0, [], ())) → smK a s k = smK b s k
  | 0, _ => rfl
  | k + 1, h => by
    have ih := smK_congr k fun i hi => h i (by omega)
    unfold smK
    by_cases e : s / 2 ^ k % 2 = 1
    · rw [if_pos e, if_pos e, ih, h k (by omega) e]
    · rw [if_neg e, if_neg e, ih]
theorem smK_mem {l : List (Int × List UInt8 × Unit)} {s : Int} {i : Nat} : ∀ k, i < k → s / 2 ^ i % 2 = 1 → l.getD i (0, [], ()) ∈ smK l s k
  | k + 1, hi, h => by
    unfold smK
    by_cases e : i = k
    · rw [← e, if_pos h]; simp
    · have := smK_mem (l := l) k (by omega) h
      split
      · exact List.mem_append_left _ this
      · exact this
theorem hides {sec : List UInt8} {nd : Int} {hs : List Int} {nz : List UInt8} (h : Spl sec nd hs nz) {oth : List UInt8} (ho : oth.length = sec.length) (s : Int) {ps : Nat → List UInt8} (hp : ∀ i, i < oth.length → Hid (smK (splL sec nd hs nz) s (splL sec nd hs nz).length) oth nd i (ps i)) :
    Spl oth nd hs (nsF ps oth.length (nd - 1).toNat oth.length 0) ∧ smK (splL oth nd hs (nsF ps oth.length (nd - 1).toNat oth.length 0)) s (splL oth nd hs (nsF ps oth.length (nd - 1).toNat oth.length 0)).length = smK (splL sec nd hs nz) s (splL sec nd hs nz).length := by
  have h1 := h.n1
  have hS : Spl oth nd hs (nsF ps oth.length (nd - 1).toNat oth.length 0) := ⟨by rw [ho]; exact h.len, h.n1, h.n12, h.hl, h.ok, by rw [nsF_len, Int.natCast_mul, Int.toNat_of_nonneg (by omega)]⟩
  refine ⟨hS, ?_⟩
  rw [hS.llen, h.llen]
  refine smK_congr _ fun i hi hb => ?_
  have hm := smK_mem (l := splL sec nd hs nz) (splL sec nd hs nz).length (by rw [h.llen]; exact hi) hb
  have hq := h.mem (getD_mem (0, [], ()) (splL sec nd hs nz) i (by rw [h.llen]; exact hi))
  have hq2 := hS.mem (getD_mem (0, [], ()) _ i (by rw [hS.llen]; exact hi))
  have eh : ((splL oth nd hs (nsF ps oth.length (nd - 1).toNat oth.length 0)).getD i (0, [], ())).1 = ((splL sec nd hs nz).getD i (0, [], ())).1 := by rw [hS.get hi, h.get hi]; rfl
  refine Prod.ext eh (Prod.ext ?_ rfl)
  refine ext_get hq2.2.1 (by rw [hq.2.1, ho]) fun k hk => ?_
  rw [hq2.2.2 k hk, eh, pol_ns h1 hk (hp k hk)]
  exact (hp k hk).s _ hm
theorem mul_nat {n : Nat} {d : Int} (h : 0 ≤ d) : ((n : Int) * d).toNat = n * d.toNat := by
  obtain ⟨m, rfl⟩ := Int.eq_ofNat_of_zero_le h
  rw [← Int.natCast_mul, Int.toNat_natCast, Int.toNat_natCast]
theorem fits_few {sec : List UInt8} {nd : Int} {hs : List Int} {nz : List UInt8} (h : Spl sec nd hs nz) {p : List (Int × List UInt8 × Unit)} (hp : p.Sublist (splL sec nd hs nz)) (hl : ¬ nd ≤ (p.length : Int)) {o : List UInt8} (ho : o.length = sec.length) :
    ftP p nd o ∧ ftN p nd o = (sec.length : Int) * (nd - 1 - (p.length : Int)) := by
  obtain ⟨r, _, _⟩ := spl_part h hp
  have hln : p.length = 0 ∨ lnS p = o.length := by
    rcases Nat.eq_zero_or_pos p.length with e | e
    · exact .inl e
    · right
      rw [ho]
      exact (h.mem (hp.subset (getD_mem (0, [], ()) p 0 e))).2.1
  have h4 := h.len
  refine ⟨⟨r, by omega, hln, .inl (by omega)⟩, ?_⟩
  unfold ftN
  rw [if_pos ⟨r, by omega, hln, by omega⟩, ho, Int.mul_comm]
theorem hid_up {K : List (Int × List UInt8 × Unit)} {oth : List UInt8} {nd : Int} {ps : Nat → List UInt8} {k : Nat} {p : List UInt8} (h : ∀ i, i < k → Hid K oth nd i (ps i)) (hp : Hid K oth nd k p) : ∀ i, i < k + 1 → Hid K oth nd i (upP ps k p i) := fun i hi => by
  unfold upP
  by_cases e : i = k
  · rw [if_pos e, e]; exact hp
  · rw [if_neg e]; exact h i (by omega)
theorem hx_snoc {K : List (Int × List UInt8 × Unit)} {j : Nat} (h : K.length + 1 + j ≤ 12) : hxL K (j + 1) = hxL K j ++ [UInt8.ofNat ((100 + (((hxL K j).length : Nat) : Int)) % 256).toNat] := by
  rw [hxL_len]
  unfold hxL
  rw [exP_snoc, ← List.append_assoc]
  congr 3
  omega
theorem hx_zero (K : List (Int × List UInt8 × Unit)) : hxL K 0 = [0] ++ xsL K := by
  unfold hxL
  rw [show exP (K.length + 1) 0 = [] from rfl, List.append_nil]
theorem upP_self (ps : Nat → List UInt8) (k : Nat) (p : List UInt8) : upP ps k p k = p := if_pos rfl
theorem spl_12 (sec : List UInt8) (nd : Int) (hs : List Int) (nz : List UInt8) : (splL sec nd hs nz).length ≤ 12 := by
  by_cases h : splE sec nd hs nz = 0
  · have := spl0 h
    rw [this.llen]; exact hs_12 this.ok
  · rw [show splL sec nd hs nz = [] from if_neg h]; exact Nat.zero_le _
end Go.Proofs.YtakbedmeieeekaaDoor.S26

namespace Go.Proofs.YtakbedmeieeekaaDoor.S26
open Go Go.Proofs.YtakbedmeieeekaaDoor.Vc

/-! ### how large the parts of a datum are -/
theorem wt_mem {t : Ty} {xs : List t.D} {x : t.D} (h : x ∈ xs) : wt t x + 1 ≤ wt (.sl t) xs := by
  have e : wt (.sl t) xs = (xs.map (wt t)).sum + 1 := rfl
  rw [e]
  clear e
  induction xs with
  | nil => cases h
  | cons y ys ih =>
    rw [List.map_cons, List.sum_cons]
    rcases List.mem_cons.1 h with rfl | h
    · omega
    · have := ih h; omega
theorem wt_len {t : Ty} (h1 : ∀ x, 1 ≤ wt t x) (xs : List t.D) : xs.length + 1 ≤ wt (.sl t) xs := by
  have e : wt (.sl t) xs = (xs.map (wt t)).sum + 1 := rfl
  rw [e]
  clear e
  induction xs with
  | nil => simp
  | cons x xs ih => have := h1 x; rw [List.map_cons, List.sum_cons, List.length_cons]; omega
theorem wt_s (s : List UInt8) : wt .str s = s.length + 1 := rfl
theorem wt_sh (s : (Int × List UInt8 × Unit)) : wt (Ty.cons (.int .i64) (.cons .str .nil)) s = 1 + ((s.2.1.length + 1) + 0) := rfl
theorem mxS {l : List (Int × List UInt8 × Unit)} {N : Nat} (h : wt (.sl (Ty.cons (.int .i64) (.cons .str .nil))) l ≤ N) : l.length ≤ N ∧ ∀ s ∈ l, s.2.1.length ≤ N := by
  refine ⟨?_, fun s hs => ?_⟩
  · have := wt_len (t := (Ty.cons (.int .i64) (.cons .str .nil))) (fun x => by rw [wt_sh]; omega) l; omega
  · have := wt_mem (t := (Ty.cons (.int .i64) (.cons .str .nil))) hs; rw [wt_sh] at this; omega
theorem wt_task (t : (Ty.cons .str (.cons (.int .i64) (.cons (.sl (.int .i64)) (.cons .str .nil)))).D) : wt (Ty.cons .str (.cons (.int .i64) (.cons (.sl (.int .i64)) (.cons .str .nil)))) t = (t.1.length + 1) + (1 + (wt (.sl (.int .i64)) t.2.2.1 + ((t.2.2.2.1.length + 1) + 0))) := rfl
theorem mxT {t : (Ty.cons .str (.cons (.int .i64) (.cons (.sl (.int .i64)) (.cons .str .nil)))).D} {N : Nat} (h : wt (Ty.cons .str (.cons (.int .i64) (.cons (.sl (.int .i64)) (.cons .str .nil)))) t ≤ N) : t.1.length ≤ N ∧ t.2.2.1.length ≤ N ∧ t.2.2.2.1.length ≤ N := by
  rw [wt_task] at h
  have := wt_len (t := .int .i64) (fun x => Nat.le_refl 1) t.2.2.1
  exact ⟨by omega, by have : List.length (α := Int) t.2.2.1 + 1 ≤ _ := this; omega, by omega⟩
end Go.Proofs.YtakbedmeieeekaaDoor.S26

namespace Go.Proofs.YtakbedmeieeekaaDoor.Cd
open Go Go.Proofs.YtakbedmeieeekaaDoor.Vc Go.Proofs Go.Proofs.YtakbedmeieeekaaDoor.S26 Go.ChangeShapes Go.WideShapes Go.ChangeAt Go.RowKit
set_option maxRecDepth 100000
set_option linter.unusedVariables false

theorem bulkAll {H : Type} : ∀ l : List (DataW H), Rows.uptoBulkAll l = (l.map Rows.uptoBulk).sum
  | [] => rfl
  | d :: l => by rw [Rows.uptoBulkAll, bulkAll l]; rfl
theorem bulk {H : Type} : Bulk (H := H) Rows.uptoBulk where
  one d := by cases d with
    | lit l => cases l <;> simp [Rows.uptoBulk]
    | _ => simp [Rows.uptoBulk]
  str b := by simp [Rows.uptoBulk]
  sl es sp := by rw [Rows.uptoBulk, bulkAll, bulkAll]; omega
  agg ps := by rw [Rows.uptoBulk, bulkAll]; omega
theorem wt_cons (t ts : Ty) (x : (Ty.cons t ts).D) : wt (.cons t ts) x = wt t x.1 + wt ts x.2 := rfl
theorem wt_int (k : IntKind) (x : Int) : wt (.int k) x = 1 := rfl
theorem wt_nil (x : Unit) : wt .nil x = 0 := rfl
theorem laidOut : laidOutB Tryd.prog = true := by kernel_rfl
theorem own : ownKnob Tryd.prog.godebug = none := by kernel_rfl

section
variable {H : Type} {enc : TypeId × Value → H} {P : Program}
theorem post_same {f : Func} {s : ChangeSpec} {apart fresh handsOn again : Bool} {W W' : World} {args : Array Value} {v : Value} {ds gs : List (DataW H)} {before pa pv : List MemPlace}
    (hW : DataW.Whole enc P f.params.toList s.vars apart W args.toList ds gs before)
    (hres : ∀ (b : Nat) (sp : Nat → Bool) (hd : Bool), DataW.TrodAll enc P W' b sp hd f.resultTypes.toList (v.resultList f.resultTypes.size) (s.fn H (ds ++ gs)).results [])
    (hargs : ∀ sp : Nat → Bool, (∀ p ∈ before, sp p.block = true) → DataW.TrodAll enc P W' 0 sp true f.params.toList args.toList (s.fn H (ds ++ gs)).args pa)
    (hvars : ∀ sp : Nat → Bool, (∀ p ∈ before, sp p.block = true) → DataW.TrodVars enc P W' sp s.vars (s.fn H (ds ++ gs)).vars pv)
    (hps : before = pa ++ pv) (hb : Below W.heap.size W W')
    (hok : ∀ (j : Nat) (t : TypeId) (r : Value), f.resultTypes[j]? = some t → (v.resultList f.resultTypes.size)[j]? = some r → Value.okWide P W' .any 0 t r) :
    s.post enc P f apart fresh handsOn again W args v W' := by
  have hlt : ∀ p ∈ before, p.block < W.heap.size := fun p hp => by simpa using hW.lt p hp
  have hold : ∀ p ∈ before, (fun b => decide (b < W.heap.size)) p.block = true := fun p hp => by simpa using hW.lt p hp
  refine ⟨ds, gs, before, [], pa, pv, hW, hres _ _ _, hargs _ hold, hvars _ hold, World.keptBut_mono (fun p hp => ⟨hp, ?_⟩) (hb.frame (· ∈ before)), fun _ => ?_⟩
  · rw [hps, List.mem_append] at hp
    exact Or.inr hp
  · obtain ⟨_, _, _, _, _, hz, hn⟩ := hW
    refine ⟨hok, _, _, ([] ++ pa) ++ pv, ⟨[] ++ pa, pv, trodAll_append (hargs _ (fun _ _ => rfl)) (hres _ _ _), hvars _ (fun _ _ => rfl), rfl, ?_, ?_⟩, ?_⟩
    · intro b off hp
      have hp' : MemPlace.cell b off ∈ before := by rw [hps]; simpa using hp
      rw [hb.frozen (hlt _ hp')]
      exact hz b off hp'
    · intro ha
      have := hn ha
      rw [hps] at this
      simpa using this
    · intro p hp _
      rw [hps]
      simpa using hp
end
end Go.Proofs.YtakbedmeieeekaaDoor.Cd

/- Texts of this claim: S29.Pc, S29.A2, S29.A3, S29.Pd. -/
import Derived.Test.YtgljcfnplkcfhaaS0
set_option linter.unusedVariables false
set_option linter.unusedSimpArgs false
namespace Go.Proofs.Ytgljcfnplkcfhaa.S29
open Go

theorem mk_row_len {N : Nat} {F : Nat → Nat → Bool} {q : Nat} (h : q < N) (e : List Bool) : ((mk N F).getD q e).length = 12 := by rw [mk_get h]; simp
theorem mk_row_cnt {N : Nat} {F : Nat → Nat → Bool} {q : Nat} (h : q < N) (e : List Bool) : cntF (fun i => ((mk N F).getD q e).getD i false) 12 = cntF (F q) 12 := cntF_congr fun i hi => by rw [mk_get h, row_get hi]
theorem mk_row_set {N : Nat} {F : Nat → Nat → Bool} {q : Nat} (h : q < N) (e : List Bool) : setF2 (fun i => ((mk N F).getD q e).getD i false) 12 = setF2 (F q) 12 := setF2_congr fun i hi => by rw [mk_get h, row_get hi]

theorem pow12 : ∀ k, k < 12 → ((1 : Int) * 2 ^ k ≤ 2048 ∧ 0 ≤ (1 : Int) * 2 ^ k) := by decide
theorem set_or {f : Nat → Bool} {k : Nat} (h : f k = true) : setF2 f k ||| ((1 : Int) * 2 ^ k).toNat = setF2 f (k + 1) := by
  have e : ((1 : Int) * 2 ^ k).toNat = 2 ^ k := by
    rw [Int.one_mul]
    have : ((2 : Int) ^ k) = ((2 ^ k : Nat) : Int) := by simp
    rw [this]; rfl
  rw [e, setF2_or, setF2, if_pos h]
theorem set_no {f : Nat → Bool} {k : Nat} (h : ¬ f k = true) : setF2 f (k + 1) = setF2 f k := by rw [setF2, if_neg h]; rfl
def cmpL (x y : Int) : Int := if x < y then -1 else if y < x then 1 else 0
def cmpS : List Int → List Int → Int
  | [], [] => 0
  | [], _ :: _ => -1
  | _ :: _, [] => 1
  | x :: s, y :: t => if cmpL x y = 0 then cmpS s t else cmpL x y

def safE (b l d m : Int) (hs : List Int) (bad w k : Int) : Int := if redL b l d m hs bad [] = 0 then (if 1 ≤ w ∧ w ≤ 1000000 ∧ 0 ≤ k ∧ k ≤ 12 then 0 else 3) else redL b l d m hs bad []
def knwL (b l d : Int) (hs : List Int) (bad : Int) : Nat := cntF (seenC b l d hs bad [] 0) 12
def winL (b l d w : Int) (q : Nat) : Int := (min (expT b l d q) 1000000 - expF b d q) / w + 1
def safQ (b l d m : Int) (hs : List Int) (bad w k : Int) (q : Nat) : Bool :=
  decide ((knwL b l d hs bad : Int) + min ((hs.length : Int) - knwL b l d hs bad) (k * winL b l d w q) < m)
def safL (b l d m : Int) (hs : List Int) (bad w k : Int) : Bool := decide (safE b l d m hs bad w k = 0) && (List.range (cntL b l d).toNat).all (safQ b l d m hs bad w k)
theorem range_all_succ (p : Nat → Bool) (k : Nat) : (List.range (k + 1)).all p = ((List.range k).all p && p k) := by
  rw [List.range_succ, List.all_append]; simp
theorem range_all_bad {p : Nat → Bool} {k N : Nat} (hk : k < N) (h : p k = false) : (List.range N).all p = false := by
  rw [List.all_eq_false]
  exact ⟨k, by simpa using hk, by simp [h]⟩

/-- increasing, from 0 to a greatest one -/
def hgF (top : Int) : Int → List Int → Bool
  | _, [] => true
  | p, h :: t => decide (0 ≤ h ∧ h ≤ top ∧ p < h) && hgF top h t
theorem hg_bad {top : Int} {hs : List Int} {k : Nat} (hk : k < hs.length) (hc : hgF top (prv hs k) (hs.drop k) = hgF top (-1) hs) (h : ¬ (0 ≤ hs.getD k 0 ∧ hs.getD k 0 ≤ top ∧ prv hs k < hs.getD k 0)) : hgF top (-1) hs = false := by
  rw [← hc, drop_one 0 hs k hk, hgF, decide_eq_false h, Bool.false_and]
theorem hg_next {top : Int} {hs : List Int} {k : Nat} (hk : k < hs.length) (hc : hgF top (prv hs k) (hs.drop k) = hgF top (-1) hs) (h : 0 ≤ hs.getD k 0 ∧ hs.getD k 0 ≤ top ∧ prv hs k < hs.getD k 0) : hgF top (prv hs (k + 1)) (hs.drop (k + 1)) = hgF top (-1) hs := by
  rw [← hc, drop_one 0 hs k hk, hgF, decide_eq_true h, Bool.true_and]; rfl
theorem hg_end {top : Int} {hs : List Int} {k : Nat} (hk : hs.length ≤ k) (h0 : k ≤ hs.length) (hc : hgF top (prv hs k) (hs.drop k) = hgF top (-1) hs) : hgF top (-1) hs = true := by
  rw [← hc, List.drop_eq_nil_of_le hk]; rfl
theorem hg_at (top : Int) : ∀ (l : List Int) (p : Int) (k : Nat), hgF top p l = true → k < l.length → 0 ≤ l.getD k 0 ∧ l.getD k 0 ≤ top
  | [], p, k, _, hk => by simp at hk
  | h :: t, p, 0, hh, hk => by
    simp only [hgF, Bool.and_eq_true, decide_eq_true_eq] at hh
    exact ⟨hh.1.1, hh.1.2.1⟩
  | h :: t, p, k + 1, hh, hk => by
    simp only [hgF, Bool.and_eq_true, decide_eq_true_eq] at hh
    have := hg_at top t h k hh.2 (by simpa using hk)
    simpa using this

def lokE (b l d m : Int) (hs held : List Int) (t : Int) : Int :=
  if chkL b l d m hs = 0 then (if hgF (cntL b l d - 1) (-1) held = true then (if 0 ≤ t ∧ t ≤ 1000000 then 0 else 3) else 1) else chkL b l d m hs
theorem lok0 {b l d m : Int} {hs held : List Int} {t : Int} (h : lokE b l d m hs held t = 0) : Cal b l d m hs ∧ hgF (cntL b l d - 1) (-1) held = true ∧ 0 ≤ t ∧ t ≤ 1000000 := by
  unfold lokE at h
  split at h
  · rename_i h1
    split at h
    · rename_i h2
      split at h
      · rename_i h3; exact ⟨chk0 h1, h2, h3⟩
      · omega
    · omega
  · contradiction
def lokM (b l d m : Int) (hs held : List Int) (t : Int) : Int := if lokE b l d m hs held t = 0 then perL b l d m hs t else 0
def lokY (b l d m : Int) (hs held : List Int) (t : Int) : Int := if lokE b l d m hs held t = 0 then (if 0 ≤ perL b l d m hs t ∧ perL b l d m hs t + 1 < cntL b l d then perL b l d m hs t + 1 else -1) else 0
def lokL (b l d m : Int) (hs held : List Int) (t : Int) : Prop := lokE b l d m hs held t = 0 ∧ 0 ≤ perL b l d m hs t ∧ ¬ perL b l d m hs t ∈ held
def wpP (b l d t : Int) (q : Int) : Bool := decide (spanT b l d q < t)
def ltP (b l d t : Int) (q : Int) : Bool := decide (expT b l d q < t)
def eaP (b d t : Int) (q : Int) : Bool := decide (t < expF b d q)
def lokW (b l d m : Int) (hs held : List Int) (t : Int) : List Int := if lokE b l d m hs held t = 0 then held.filter (wpP b l d t) else []
def lokT (b l d m : Int) (hs held : List Int) (t : Int) : List Int := if lokE b l d m hs held t = 0 then held.filter (ltP b l d t) else []
def lokR (b l d m : Int) (hs held : List Int) (t : Int) : List Int := if lokE b l d m hs held t = 0 then held.filter (eaP b d t) else []
theorem filter_snoc {α : Type} (d : α) (p : α → Bool) (l : List α) (k : Nat) (h : k < l.length) : (l.take (k + 1)).filter p = (l.take k).filter p ++ (if p (l.getD k d) = true then [l.getD k d] else []) := by
  rw [take_snoc d l k h, List.filter_append]
  congr 1
  generalize l.getD k d = x
  split <;> simp_all
theorem filter_yes {α : Type} (d : α) (p : α → Bool) (l : List α) (k : Nat) (h : k < l.length) (hp : p (l.getD k d) = true) : (l.take (k + 1)).filter p = (l.take k).filter p ++ [l.getD k d] := by
  rw [filter_snoc d p l k h, if_pos hp]
theorem filter_no {α : Type} (d : α) (p : α → Bool) (l : List α) (k : Nat) (h : k < l.length) (hp : p (l.getD k d) = false) : (l.take (k + 1)).filter p = (l.take k).filter p := by
  rw [filter_snoc d p l k h, if_neg (by rw [hp]; simp), List.append_nil]
theorem per_ok {b l d m : Int} {hs : List Int} (hc : Cal b l d m hs) (t : Int) : -1 ≤ perL b l d m hs t ∧ perL b l d m hs t < cntL b l d := by
  have h1 := hc.c1
  unfold perL
  split
  · rename_i h
    have h2 := Int.ediv_le_ediv (by have := hc.n1; omega : 0 < d) (by omega : t - b ≤ l - b)
    have h3 := Int.ediv_nonneg (by omega : 0 ≤ t - b) (by have := hc.n1; omega : 0 ≤ d)
    unfold cntL
    omega
  · omega
theorem filter_take_len {α : Type} (p : α → Bool) (l : List α) (k : Nat) : ((l.take k).filter p).length ≤ l.length := Nat.le_trans (List.length_filter_le _ _) (by rw [List.length_take]; omega)

def extE (b l d m : Int) (hs : List Int) (x : Int) : Int := if chkL b l d m hs = 0 then (if x ≤ l then 4 else chkL b x d m hs) else chkL b l d m hs
def ext0 (b l d m : Int) (hs : List Int) (x y : Int) : Int := if extE b l d m hs x = 0 then y else 0
def extH (b l d m : Int) (hs : List Int) (x : Int) : List Int := if extE b l d m hs x = 0 then hs else []
theorem win_ok {b l d m w mo : Int} {hs : List Int} (hc : Cal b l d m hs) (hw : 1 ≤ w) (h0 : 0 ≤ mo) (h12 : mo ≤ 12) {q : Nat} (hq : (q : Int) < cntL b l d) :
    0 ≤ min (expT b l d q) 1000000 - expF b d q ∧ 0 ≤ expF b d q ∧ expT b l d q ≤ 1000002 ∧ 0 ≤ (min (expT b l d q) 1000000 - expF b d q) / w ∧ (min (expT b l d q) 1000000 - expF b d q) / w ≤ 1000000 ∧
      0 ≤ mo * ((min (expT b l d q) 1000000 - expF b d q) / w + 1) ∧ mo * ((min (expT b l d q) 1000000 - expF b d q) / w + 1) ≤ 20000000 := by
  obtain ⟨z1, z2, z3⟩ := hc.qn (q := q) (by omega) hq
  obtain ⟨z4, z5⟩ := hc.qn1 (q := q) (by omega) hq
  have a1 := hc.b0
  have a2 := hc.l1
  have a3 := hc.n1
  have a4 := hc.bl
  have e1 : 0 ≤ min (expT b l d q) 1000000 - expF b d q := by unfold expT expF; omega
  have e2 : 0 ≤ expF b d q := by unfold expF; omega
  have e3 : expT b l d q ≤ 1000002 := by unfold expT; omega
  have e4 := Int.ediv_nonneg e1 (by omega : 0 ≤ w)
  have e5 := Int.ediv_le_self w e1
  have e6 : 0 ≤ mo * ((min (expT b l d q) 1000000 - expF b d q) / w + 1) := Int.mul_nonneg h0 (by omega)
  have e7 : mo * ((min (expT b l d q) 1000000 - expF b d q) / w + 1) ≤ 12 * ((min (expT b l d q) 1000000 - expF b d q) / w + 1) := Int.mul_le_mul_of_nonneg_right h12 (by omega)
  exact ⟨e1, e2, e3, e4, by omega, e6, by omega⟩
end Go.Proofs.Ytgljcfnplkcfhaa.S29

namespace Go.Proofs.Ytgljcfnplkcfhaa.S29
open Go Go.Proofs.Ytgljcfnplkcfhaa.Vc Go.Proofs
set_option maxRecDepth 100000
set_option linter.unusedVariables false

def sRdy : List V → Option (Prop × V × List Blk)
  | [.agg [.int .i64 b, .int .i64 l, .int .i64 d, .int .i64 m, .sl false (.int .i64) hs], .int .i64 bad, .sl false (.cons (.int .i64) (.cons (.int .i64) .nil)) a] => some (hs.length ≤ 2000000 ∧ a.length ≤ 2000000, .int .i64 (redL b l d m hs bad a), [])
  | _ => none
set_option maxHeartbeats 1000000 in
theorem bRdy (b : Int) (l : Int) (d : Int) (m : Int) (hs : List Int) (bad : Int) (a : List (Int × (Int × Unit))) (hp0 : hs.length ≤ 2000000) (hp1 : a.length ≤ 2000000) : bodyP (En CSeen tys [] QAt) Try.f85 [.k] [.agg [.int .i64 b, .int .i64 l, .int .i64 d, .int .i64 m, .sl false (.int .i64) hs], .int .i64 bad, .sl false (.cons (.int .i64) (.cons (.int .i64) .nil)) a] (.int .i64 (redL b l d m hs bad a)) [] := by
  refine ⟨rfl, rfl, rfl, rfl, by show hs.length ≤ 2000000; first | omega | assumption, fun h0 => ?_, fun h0 => ?_⟩
  · replace h0 : (chkL b l d m hs) ≠ 0 := h0
    refine ⟨rfl, rfl, ?_, rfl⟩
    unfold redL
    repeat' split
    all_goals first | rfl | omega | (exfalso; simp_all; done)
  · replace h0 : ¬ ((chkL b l d m hs) ≠ 0) := h0
    refine ⟨rfl, rfl, rfl, trivial, fun h1 => ?_, fun h1 => ?_⟩
    · replace h1 : ¬ (0 ≤ bad ∧ bad ≤ 4095) := h1
      refine ⟨rfl, rfl, ?_, rfl⟩
      unfold redL
      repeat' split
      all_goals first | rfl | omega | (exfalso; simp_all; done)
    · replace h1 : ¬ (¬ (0 ≤ bad ∧ bad ≤ 4095)) := h1
      refine ⟨by show a.length ≤ 2000000; first | omega | assumption, ?_⟩
      refine ⟨rfl, rfl, ?_, rfl⟩
      unfold redL
      repeat' split
      all_goals first | rfl | omega | (exfalso; simp_all; done)
def CRdy : List (Nat × Con) := (85, pureC [.v (.cons (.int .i64) (.cons (.int .i64) (.cons (.int .i64) (.cons (.int .i64) (.cons (.sl (.int .i64)) .nil))))), .v (.int .i64), .v (.sl (.cons (.int .i64) (.cons (.int .i64) .nil)))] sRdy) :: CSeen
theorem kRdy : Known Try.prog (En CRdy tys [] QAt) := kSeen.add Try.func85 Try.call85 [.k] fun ds p v bs h hp => by
  unfold sRdy at h
  split at h <;> simp only [Option.some.injEq, Prod.mk.injEq, reduceCtorEq] at h
  obtain ⟨rfl, rfl, rfl⟩ := h
  exact bRdy _ _ _ _ _ _ _ hp.1 hp.2
def sNaN : List V → Option (Prop × V × List Blk)
  | [.int .i64 x] => some (True, .b False, [])
  | _ => none
set_option maxHeartbeats 1000000 in
theorem bNaN (x : Int)  : bodyP (En CRdy tys [] QAt) Try.f138 [.k] [.int .i64 x] (.b False) [] := by
  exact ⟨rfl, rfl, congrArg V.b (propext ⟨fun h => h rfl, fun h => h.elim⟩), rfl⟩
def CNaN : List (Nat × Con) := (138, pureC [.v (.int .i64)] sNaN) :: CRdy
theorem kNaN : Known Try.prog (En CNaN tys [] QAt) := kRdy.add Try.func138 Try.call138 [.k] fun ds p v bs h hp => by
  unfold sNaN at h
  split at h <;> simp only [Option.some.injEq, Prod.mk.injEq, reduceCtorEq] at h
  obtain ⟨rfl, rfl, rfl⟩ := h
  exact bNaN _
def sCmpI : List V → Option (Prop × V × List Blk)
  | [.int .i64 x, .int .i64 y] => some (True, .int .i64 (cmpL x y), [])
  | _ => none
set_option maxHeartbeats 1000000 in
theorem bCmpI (x : Int) (y : Int)  : bodyP (En CNaN tys [] QAt) Try.f124 [.k] [.int .i64 x, .int .i64 y] (.int .i64 (cmpL x y)) [] := by
  refine ⟨rfl, trivial, rfl, trivial, fun h0 => absurd h0 (show ¬ False by exact id), fun h0 => ?_⟩
  refine ⟨fun h1 => absurd h1 (show ¬ False by exact id), fun h1 => ?_⟩
  refine ⟨fun h2 => ?_, fun h2 => ?_⟩
  · replace h2 : x < y := h2
    refine ⟨rfl, rfl, ?_, rfl⟩
    unfold cmpL
    repeat' split
    all_goals first | rfl | omega | (exfalso; simp_all; done)
  · replace h2 : ¬ (x < y) := h2
    refine ⟨fun h3 => ?_, fun h3 => ?_⟩
    · replace h3 : y < x := h3
      refine ⟨rfl, rfl, ?_, rfl⟩
      unfold cmpL
      repeat' split
      all_goals first | rfl | omega | (exfalso; simp_all; done)
    · replace h3 : ¬ (y < x) := h3
      refine ⟨rfl, rfl, ?_, rfl⟩
      unfold cmpL
      repeat' split
      all_goals first | rfl | omega | (exfalso; simp_all; done)
def CCmpI : List (Nat × Con) := (124, pureC [.v (.int .i64), .v (.int .i64)] sCmpI) :: CNaN
theorem kCmpI : Known Try.prog (En CCmpI tys [] QAt) := kNaN.add Try.func124 Try.call124 [.k] fun ds p v bs h hp => by
  unfold sCmpI at h
  split at h <;> simp only [Option.some.injEq, Prod.mk.injEq, reduceCtorEq] at h
  obtain ⟨rfl, rfl, rfl⟩ := h
  exact bCmpI _ _
def sCmpS : List V → Option (Prop × V × List Blk)
  | [.sl false (.int .i64) s, .sl false (.int .i64) t] => some (s.length ≤ 2000000 ∧ t.length ≤ 2000000, .int .i64 (cmpS s t), [])
  | _ => none
set_option maxHeartbeats 1000000 in
theorem bCmpS (s : List Int) (t : List Int) (hp0 : s.length ≤ 2000000) (hp1 : t.length ≤ 2000000) : bodyP (En CCmpI tys [] QAt) Try.f89 [.k] [.sl false (.int .i64) s, .sl false (.int .i64) t] (.int .i64 (cmpS s t)) [] := by
  refine ⟨0, [(0, .k), (1, .k), (9, .k), (10, .k), (11, .k)], fun nM vs H => ∃ (k : Nat), k ≤ s.length ∧ k ≤ t.length ∧ cmpS (s.drop k) (t.drop k) = cmpS s t ∧ nM = s.length - k ∧ vs = [.sl false (.int .i64) s, .sl false (.int .i64) t, .sl false (.int .i64) s, .int .i64 (s.length : Int), .int .i64 (k : Int)] ∧ H = [], ⟨rfl, s.length, 0, by omega, by omega, rfl, by omega, rfl, rfl⟩, ?_⟩
  rintro nM vs H ⟨k, hc1_0, hc1_1, hc1_2, rfl, rfl, rfl⟩
  refine ⟨fun h0 => ?_, fun h0 => ?_⟩
  · replace h0 : (k : Int) < (s.length : Int) := h0
    rw [drop_one 0 s k (by omega)] at hc1_2
    refine ⟨⟨by show (0 : Int) ≤ (k : Int); omega, by show (k : Int) < (s.length : Int); omega⟩, fun h1 => ?_, fun h1 => ?_⟩
    · replace h1 : (t.length : Int) ≤ (k : Int) := h1
      rw [List.drop_eq_nil_of_le (by omega : t.length ≤ k), cmpS] at hc1_2
      rw [← hc1_2]
      exact ⟨rfl, rfl, rfl, rfl⟩
    · replace h1 : ¬ ((t.length : Int) ≤ (k : Int)) := h1
      rw [drop_one 0 t k (by omega), cmpS] at hc1_2
      refine ⟨⟨by show (0 : Int) ≤ (k : Int); omega, by show (k : Int) < (t.length : Int); omega⟩, rfl, rfl, trivial, fun h2 => ?_, fun h2 => ?_⟩
      · replace h2 : (cmpL (s.getD k 0) (t.getD k 0)) ≠ 0 := h2
        rw [if_neg h2] at hc1_2
        rw [← hc1_2]
        exact ⟨rfl, rfl, rfl, rfl⟩
      · replace h2 : ¬ ((cmpL (s.getD k 0) (t.getD k 0)) ≠ 0) := h2
        rw [if_pos (Classical.not_not.1 h2)] at hc1_2
        refine ⟨⟨by show (-9223372036854775808 : Int) ≤ ((k : Int) + 1); omega, by show ((k : Int) + 1) ≤ (9223372036854775807 : Int); omega⟩, ?_⟩
        exact ⟨rfl, s.length - (k + 1), by omega, k + 1, by omega, by omega, hc1_2, rfl, rfl, rfl⟩
  · replace h0 : ¬ ((k : Int) < (s.length : Int)) := h0
    rw [List.drop_eq_nil_of_le (by omega : s.length ≤ k)] at hc1_2
    refine ⟨fun h3 => ?_, fun h3 => ?_⟩
    · replace h3 : (s.length : Int) < (t.length : Int) := h3
      rw [drop_one 0 t k (by omega), cmpS] at hc1_2
      rw [← hc1_2]
      exact ⟨rfl, rfl, rfl, rfl⟩
    · replace h3 : ¬ ((s.length : Int) < (t.length : Int)) := h3
      rw [List.drop_eq_nil_of_le (by omega : t.length ≤ k), cmpS] at hc1_2
      rw [← hc1_2]
      exact ⟨rfl, rfl, rfl, rfl⟩
def CCmpS : List (Nat × Con) := (89, pureC [.v (.sl (.int .i64)), .v (.sl (.int .i64))] sCmpS) :: CCmpI
theorem kCmpS : Known Try.prog (En CCmpS tys [] QAt) := kCmpI.add Try.func89 Try.call89 [.k] fun ds p v bs h hp => by
  unfold sCmpS at h
  split at h <;> simp only [Option.some.injEq, Prod.mk.injEq, reduceCtorEq] at h
  obtain ⟨rfl, rfl, rfl⟩ := h
  exact bCmpS _ _ hp.1 hp.2
def sCln : List V → Option (Prop × V × List Blk)
  | [.sl false (.int .i64) s] => some (s.length ≤ 2000000, .own (.int .i64) 0, [.row true (.int .i64) (s)])
  | _ => none
set_option maxHeartbeats 1000000 in
theorem bCln (s : List Int) (hp0 : s.length ≤ 2000000) : bodyP (En CCmpS tys [] QAt) Try.f77 [.o (.int .i64)] [.sl false (.int .i64) s] (.own (.int .i64) 0) [.row true (.int .i64) (s)] := by
  refine fun p0 hq0 => ?_
  refine ⟨fun h1 => ?_, fun h1 => ?_⟩
  · replace h1 : p0 := h1
    have e := hq0 h1
    subst e
    exact ⟨rfl, rfl, rfl, rfl⟩
  · replace h1 : ¬ p0 := h1
    refine ⟨⟨rfl, rfl⟩, by show ([] : List Int).length + s.length ≤ 1000000000; simp only [List.length_cons, List.length_nil]; omega, ?_⟩
    exact ⟨rfl, rfl, rfl, rfl⟩
def CCln : List (Nat × Con) := (77, pureC [.v (.sl (.int .i64))] sCln) :: CCmpS
theorem kCln : Known Try.prog (En CCln tys [] QAt) := kCmpS.add Try.func77 Try.call77 [.o (.int .i64)] fun ds p v bs h hp => by
  unfold sCln at h
  split at h <;> simp only [Option.some.injEq, Prod.mk.injEq, reduceCtorEq] at h
  obtain ⟨rfl, rfl, rfl⟩ := h
  exact bCln _ hp
def sSeenS : List V → Option (Prop × V × List Blk)
  | [.agg [.int .i64 b, .int .i64 l, .int .i64 d, .int .i64 m, .sl false (.int .i64) hs], .sl false (.cons (.int .i64) (.cons (.int .i64) .nil)) a, .int .i64 q] => some (hs.length ≤ 2000000 ∧ a.length ≤ 2000000, .tup [.int .i64 (senL b l d m hs a q), .int .i64 (senE b l d m hs a q)], [])
  | _ => none
set_option maxHeartbeats 1000000 in
theorem bSeenS (b : Int) (l : Int) (d : Int) (m : Int) (hs : List Int) (a : List (Int × (Int × Unit))) (q : Int) (hp0 : hs.length ≤ 2000000) (hp1 : a.length ≤ 2000000) : bodyP (En CCln tys [] QAt) Try.f31 [.k, .k] [.agg [.int .i64 b, .int .i64 l, .int .i64 d, .int .i64 m, .sl false (.int .i64) hs], .sl false (.cons (.int .i64) (.cons (.int .i64) .nil)) a, .int .i64 q] (.tup [.int .i64 (senL b l d m hs a q), .int .i64 (senE b l d m hs a q)]) [] := by
  refine ⟨rfl, rfl, rfl, rfl, by show hs.length ≤ 2000000; first | omega | assumption, fun h0 => ?_, fun h0 => ?_⟩
  · replace h0 : (chkL b l d m hs) ≠ 0 := h0
    rw [show senL b l d m hs a q = 0 from if_neg (fun h => h0 h.1), show senE b l d m hs a q = chkL b l d m hs from if_neg h0]
    exact ⟨rfl, rfl, rfl, rfl⟩
  · replace h0 : ¬ ((chkL b l d m hs) ≠ 0) := h0
    refine ⟨by show a.length ≤ 2000000; first | omega | assumption, fun h1 => ?_, fun h1 => ?_⟩
    · replace h1 : (capL a) ≠ 0 := h1
      rw [show senL b l d m hs a q = 0 from if_neg (fun h => h1 h.2.1), show senE b l d m hs a q = capL a by unfold senE; rw [if_pos (Classical.not_not.1 h0), if_neg h1]]
      exact ⟨rfl, rfl, rfl, rfl⟩
    · replace h1 : ¬ ((capL a) ≠ 0) := h1
      refine ⟨rfl, rfl, rfl, rfl, rfl, by show hs.length ≤ 2000000; first | omega | assumption, fun h2 => ?_, fun h2 => ?_⟩
      · replace h2 : (askL b l d m hs q) ≠ 0 := h2
        rw [show senL b l d m hs a q = 0 from if_neg (fun h => h2 h.2.2), show senE b l d m hs a q = askL b l d m hs q by unfold senE; rw [if_pos (Classical.not_not.1 h0), if_pos (Classical.not_not.1 h1)]]
        exact ⟨rfl, rfl, rfl, rfl⟩
      · replace h2 : ¬ ((askL b l d m hs q) ≠ 0) := h2
        obtain ⟨hc, hq0, hq1⟩ := ask0 (Classical.not_not.1 h2)
        obtain ⟨hca1, hca2⟩ := cap0 (Classical.not_not.1 h1)
        obtain ⟨q1, q2, q3, q4, q5, q6, q7, q8, q9, q10, q11⟩ := id hc
        have hml := mk_len (cntL b l d).toNat (seenC b l d hs 0 a)
        have e1 : senL b l d m hs a q = (setF2 (fun i => ((mk (cntL b l d).toNat (seenC b l d hs 0 a)).getD q.toNat (List.replicate 12 false)).getD i false) 12 : Int) := by unfold senL; rw [if_pos ⟨(Classical.not_not.1 h0), (Classical.not_not.1 h1), (Classical.not_not.1 h2)⟩, mk_row_set (N := (cntL b l d).toNat) (q := q.toNat) (by omega)]
        have e2 : senE b l d m hs a q = 0 := by unfold senE; rw [if_pos (Classical.not_not.1 h0), if_pos (Classical.not_not.1 h1)]; exact (Classical.not_not.1 h2)
        refine ⟨rfl, rfl, rfl, rfl, rfl, ⟨by assumption, by omega, by show a.length ≤ 500; first | omega | assumption, by first | assumption | simp⟩, ⟨by show (0 : Int) ≤ q; omega, by show q < ((mk (cntL b l d).toNat (seenC b l d hs 0 a)).length : Int); omega⟩, 2, [(11, .k), (35, .k), (36, .k)], fun nM vs H => ∃ (k : Nat), k ≤ 12 ∧ nM = 12 - k ∧ vs = [.int .i64 (setF2 (fun i => ((mk (cntL b l d).toNat (seenC b l d hs 0 a)).getD q.toNat (List.replicate 12 false)).getD i false) k : Int), .dat true (.arr 12 .bool) ((mk (cntL b l d).toNat (seenC b l d hs 0 a)).getD q.toNat (List.replicate 12 false)), .int .i64 (k : Int)] ∧ H = [.cells [.int .i64 b, .int .i64 l, .int .i64 d, .int .i64 m, .sl false (.int .i64) hs], .row true (.arr 12 .bool) (mk (cntL b l d).toNat (seenC b l d hs 0 a))], ⟨rfl, 12, 0, by omega, by omega, rfl, rfl⟩, ?_⟩
        rintro nM vs H ⟨k, hc1_0, rfl, rfl, rfl⟩
        refine ⟨fun h3 => ?_, fun h3 => ?_⟩
        · replace h3 : (k : Int) < 12 := h3
          have hsb := setF2_bound (fun i => ((mk (cntL b l d).toNat (seenC b l d hs 0 a)).getD q.toNat (List.replicate 12 false)).getD i false) hc1_0
          obtain ⟨hp1, hp2⟩ := pow12 k (by omega)
          refine ⟨⟨by show (0 : Int) ≤ (k : Int); omega, by show (k : Int) < (12 : Int); omega⟩, fun h4 => ?_, fun h4 => ?_⟩
          · replace h4 : (((mk (cntL b l d).toNat (seenC b l d hs 0 a)).getD q.toNat (List.replicate 12 false)).getD k false) = true := h4
            have e := set_or (f := fun i => ((mk (cntL b l d).toNat (seenC b l d hs 0 a)).getD q.toNat (List.replicate 12 false)).getD i false) (k := k) h4
            refine ⟨⟨by show (0 : Int) ≤ (k : Int); omega, by show (k : Int) ≤ (64 : Int); omega⟩, ⟨by show (-9223372036854775808 : Int) ≤ 1 * 2 ^ k; omega, by show 1 * 2 ^ k ≤ (9223372036854775807 : Int); omega⟩, ⟨by show (0 : Int) ≤ (setF2 (fun i => ((mk (cntL b l d).toNat (seenC b l d hs 0 a)).getD q.toNat (List.replicate 12 false)).getD i false) k : Int); omega, by show (0 : Int) ≤ (1 * 2 ^ k); omega⟩, ⟨by show (-9223372036854775808 : Int) ≤ ((k : Int) + 1); omega, by show ((k : Int) + 1) ≤ (9223372036854775807 : Int); omega⟩, ?_⟩
            first | exact ⟨rfl, 12 - (k + 1), by omega, k + 1, by omega, rfl, by rw [← e]; rfl, rfl⟩ | exact ⟨rfl, 12 - (k + 1), by omega, k + 1, by omega, rfl, by rw [e]; rfl, rfl⟩
          · replace h4 : ¬ ((((mk (cntL b l d).toNat (seenC b l d hs 0 a)).getD q.toNat (List.replicate 12 false)).getD k false) = true) := h4
            have e := set_no (f := fun i => ((mk (cntL b l d).toNat (seenC b l d hs 0 a)).getD q.toNat (List.replicate 12 false)).getD i false) (k := k) h4
            refine ⟨⟨by show (-9223372036854775808 : Int) ≤ ((k : Int) + 1); omega, by show ((k : Int) + 1) ≤ (9223372036854775807 : Int); omega⟩, ?_⟩
            first | exact ⟨rfl, 12 - (k + 1), by omega, k + 1, by omega, rfl, by rw [← e]; rfl, rfl⟩ | exact ⟨rfl, 12 - (k + 1), by omega, k + 1, by omega, rfl, by rw [e]; rfl, rfl⟩
        · replace h3 : ¬ ((k : Int) < 12) := h3
          obtain rfl : k = 12 := by omega
          rw [e1, e2]
          exact ⟨rfl, rfl, rfl, rfl⟩
def CSeenS : List (Nat × Con) := (31, pureC [.v (.cons (.int .i64) (.cons (.int .i64) (.cons (.int .i64) (.cons (.int .i64) (.cons (.sl (.int .i64)) .nil))))), .v (.sl (.cons (.int .i64) (.cons (.int .i64) .nil))), .v (.int .i64)] sSeenS) :: CCln
theorem kSeenS : Known Try.prog (En CSeenS tys [] QAt) := kCln.add Try.func31 Try.call31 [.k, .k] fun ds p v bs h hp => by
  unfold sSeenS at h
  split at h <;> simp only [Option.some.injEq, Prod.mk.injEq, reduceCtorEq] at h
  obtain ⟨rfl, rfl, rfl⟩ := h
  exact bSeenS _ _ _ _ _ _ _ hp.1 hp.2
def sTel : List V → Option (Prop × V × List Blk)
  | [.agg [.int .i64 b, .int .i64 l, .int .i64 d, .int .i64 m, .sl false (.int .i64) hs], .int .i64 bad, .sl false (.cons (.int .i64) (.cons (.int .i64) .nil)) a] => some (hs.length ≤ 2000000 ∧ a.length ≤ 2000000, .tup [.own (.int .i64) 0, .int .i64 (redL b l d m hs bad a)], [.row true (.int .i64) (telL b l d m hs bad a)])
  | _ => none
set_option maxHeartbeats 1000000 in
theorem bTel (b : Int) (l : Int) (d : Int) (m : Int) (hs : List Int) (bad : Int) (a : List (Int × (Int × Unit))) (hp0 : hs.length ≤ 2000000) (hp1 : a.length ≤ 2000000) : bodyP (En CSeenS tys [] QAt) Try.f33 [.o (.int .i64), .k] [.agg [.int .i64 b, .int .i64 l, .int .i64 d, .int .i64 m, .sl false (.int .i64) hs], .int .i64 bad, .sl false (.cons (.int .i64) (.cons (.int .i64) .nil)) a] (.tup [.own (.int .i64) 0, .int .i64 (redL b l d m hs bad a)]) [.row true (.int .i64) (telL b l d m hs bad a)] := by
  refine ⟨rfl, rfl, rfl, rfl, rfl, ⟨by show hs.length ≤ 2000000; first | omega | assumption, by show a.length ≤ 2000000; first | omega | assumption⟩, fun h0 => ?_, fun h0 => ?_⟩
  · replace h0 : (redL b l d m hs bad a) ≠ 0 := h0
    rw [show telL b l d m hs bad a = [] from if_neg h0]
    exact ⟨rfl, rfl, rfl, rfl⟩
  · replace h0 : ¬ ((redL b l d m hs bad a) ≠ 0) := h0
    obtain ⟨hc, hb0, hb1, hca1, hca2⟩ := red0 (Classical.not_not.1 h0)
    obtain ⟨q1, q2, q3, q4, q5, q6, q7, q8, q9, q10, q11⟩ := id hc
    obtain ⟨N, hN⟩ : ∃ N : Nat, cntL b l d = (N : Int) := ⟨(cntL b l d).toNat, by omega⟩
    have hml := mk_len (cntL b l d).toNat (seenC b l d hs bad a)
    refine ⟨rfl, rfl, rfl, rfl, rfl, ⟨by assumption, by show 0 ≤ bad; first | omega | assumption, by show a.length ≤ 500; first | omega | assumption, by first | assumption | simp⟩, 2, [(3, .k), (9, .o (.int .i64)), (22, .o (.arr 12 .bool)), (23, .k), (24, .k)], fun nM vs H => ∃ (k : Nat), k ≤ N ∧ nM = N - k ∧ vs = [.ptr 0 1 0 0, .own (.int .i64) 2, .own (.arr 12 .bool) 1, .int .i64 (((mk (cntL b l d).toNat (seenC b l d hs bad a)).length : Nat) : Int), .int .i64 (k : Int)] ∧ H = [.cells [.int .i64 b, .int .i64 l, .int .i64 d, .int .i64 m, .sl false (.int .i64) hs], .row true (.arr 12 .bool) (mk (cntL b l d).toNat (seenC b l d hs bad a)), .row true (.int .i64) (telG b l d m hs bad a k)], ⟨rfl, N, 0, by omega, by omega, rfl, rfl⟩, ?_⟩
    rintro nM vs H ⟨k, hc1_0, rfl, rfl, rfl⟩
    refine ⟨fun h1 => ?_, fun h1 => ?_⟩
    · replace h1 : (k : Int) < (((mk (cntL b l d).toNat (seenC b l d hs bad a)).length : Nat) : Int) := h1
      have htl := telG_len b l d m hs bad a k
      have hrl := mk_row_len (F := seenC b l d hs bad a) (N := (cntL b l d).toNat) (q := k) (by omega) (List.replicate 12 false)
      have hcnt := mk_row_cnt (F := seenC b l d hs bad a) (N := (cntL b l d).toNat) (q := k) (by omega) (List.replicate 12 false)
      refine ⟨⟨by show (0 : Int) ≤ (k : Int); omega, by show (k : Int) < ((mk (cntL b l d).toNat (seenC b l d hs bad a)).length : Int); omega⟩, ⟨rfl, rfl, rfl, by first | assumption | rfl | simp, rfl⟩, by kernel_rfl, by first | assumption | rfl | simp, by exact mk_row_len (N := (cntL b l d).toNat) (by omega) _, fun h2 => ?_, fun h2 => ?_⟩
      · replace h2 : m ≤ (cntF (fun i => ((mk (cntL b l d).toNat (seenC b l d hs bad a)).getD k (List.replicate 12 false)).getD i false) 12 : Int) := h2
        rw [hcnt] at h2
        have tp : telP b l d m hs bad a k = true := decide_eq_true h2
        refine ⟨rfl, ⟨rfl, rfl⟩, by show (telG b l d m hs bad a k).length + ([(k : Int)] : List Int).length ≤ 1000000000; simp only [List.length_cons, List.length_nil]; omega, ⟨by show (-9223372036854775808 : Int) ≤ ((k : Int) + 1); omega, by show ((k : Int) + 1) ≤ (9223372036854775807 : Int); omega⟩, ?_⟩
        first | exact ⟨rfl, N - (k + 1), by omega, k + 1, by omega, rfl, rfl, by rw [telG_succ, if_pos tp]; rfl⟩ | exact ⟨rfl, N - (k + 1), by omega, k + 1, by omega, rfl, rfl, by rw [telG_succ, if_neg tp, List.append_nil]; rfl⟩
      · replace h2 : ¬ (m ≤ (cntF (fun i => ((mk (cntL b l d).toNat (seenC b l d hs bad a)).getD k (List.replicate 12 false)).getD i false) 12 : Int)) := h2
        rw [hcnt] at h2
        have tp : ¬ telP b l d m hs bad a k = true := by unfold telP; rw [decide_eq_true_eq]; exact h2
        refine ⟨⟨by show (-9223372036854775808 : Int) ≤ ((k : Int) + 1); omega, by show ((k : Int) + 1) ≤ (9223372036854775807 : Int); omega⟩, ?_⟩
        first | exact ⟨rfl, N - (k + 1), by omega, k + 1, by omega, rfl, rfl, by rw [telG_succ, if_pos tp]; rfl⟩ | exact ⟨rfl, N - (k + 1), by omega, k + 1, by omega, rfl, rfl, by rw [telG_succ, if_neg tp, List.append_nil]; rfl⟩
    · replace h1 : ¬ ((k : Int) < (((mk (cntL b l d).toNat (seenC b l d hs bad a)).length : Nat) : Int)) := h1
      rw [show telL b l d m hs bad a = telG b l d m hs bad a k by rw [telL, if_pos (Classical.not_not.1 h0), show (cntL b l d).toNat = k by omega], (Classical.not_not.1 h0)]
      exact ⟨rfl, rfl, rfl, rfl⟩
def CTel : List (Nat × Con) := (33, pureC [.v (.cons (.int .i64) (.cons (.int .i64) (.cons (.int .i64) (.cons (.int .i64) (.cons (.sl (.int .i64)) .nil))))), .v (.int .i64), .v (.sl (.cons (.int .i64) (.cons (.int .i64) .nil)))] sTel) :: CSeenS
theorem kTel : Known Try.prog (En CTel tys [] QAt) := kSeenS.add Try.func33 Try.call33 [.o (.int .i64), .k] fun ds p v bs h hp => by
  unfold sTel at h
  split at h <;> simp only [Option.some.injEq, Prod.mk.injEq, reduceCtorEq] at h
  obtain ⟨rfl, rfl, rfl⟩ := h
  exact bTel _ _ _ _ _ _ _ hp.1 hp.2
end Go.Proofs.Ytgljcfnplkcfhaa.S29

namespace Go.Proofs.Ytgljcfnplkcfhaa.S29
open Go Go.Proofs.Ytgljcfnplkcfhaa.Vc Go.Proofs
set_option maxRecDepth 100000
set_option linter.unusedVariables false

def sExt : List V → Option (Prop × V × List Blk)
  | [.agg [.int .i64 b, .int .i64 l, .int .i64 d, .int .i64 m, .sl false (.int .i64) hs], .int .i64 x] => some (hs.length ≤ 2000000, .tup [.agg [.int .i64 (ext0 b l d m hs x b), .int .i64 (ext0 b l d m hs x x), .int .i64 (ext0 b l d m hs x d), .int .i64 (ext0 b l d m hs x m), .own (.int .i64) 0], .int .i64 (extE b l d m hs x)], [.row true (.int .i64) (extH b l d m hs x)])
  | _ => none
set_option maxHeartbeats 1000000 in
theorem bExt (b : Int) (l : Int) (d : Int) (m : Int) (hs : List Int) (x : Int) (hp0 : hs.length ≤ 2000000) : bodyP (En CTel tys [] QAt) Try.f22 [.c [(4, (.int .i64))], .k] [.agg [.int .i64 b, .int .i64 l, .int .i64 d, .int .i64 m, .sl false (.int .i64) hs], .int .i64 x] (.tup [.agg [.int .i64 (ext0 b l d m hs x b), .int .i64 (ext0 b l d m hs x x), .int .i64 (ext0 b l d m hs x d), .int .i64 (ext0 b l d m hs x m), .own (.int .i64) 0], .int .i64 (extE b l d m hs x)]) [.row true (.int .i64) (extH b l d m hs x)] := by
  refine ⟨rfl, rfl, rfl, rfl, by show hs.length ≤ 2000000; first | omega | assumption, fun h0 => ?_, fun h0 => ?_⟩
  · replace h0 : (chkL b l d m hs) ≠ 0 := h0
    refine ⟨⟨rfl, rfl, rfl, Nat.le_of_ble_eq_true rfl⟩, ?_⟩
    have hE : extE b l d m hs x = chkL b l d m hs := if_neg h0
    have hz : ∀ y, ext0 b l d m hs x y = 0 := fun y => if_neg (by rw [hE]; first | exact h0 | exact h2 | omega)
    have hh : extH b l d m hs x = [] := if_neg (by rw [hE]; first | exact h0 | exact h2 | omega)
    rw [hz, hz, hz, hz, hh, hE]
    exact ⟨rfl, rfl, rfl, rfl⟩
  · replace h0 : ¬ ((chkL b l d m hs) ≠ 0) := h0
    refine ⟨fun h1 => ?_, fun h1 => ?_⟩
    · replace h1 : x ≤ l := h1
      refine ⟨⟨rfl, rfl, rfl, Nat.le_of_ble_eq_true rfl⟩, ?_⟩
      have hE : extE b l d m hs x = 4 := by unfold extE; rw [if_pos (Classical.not_not.1 h0), if_pos h1]
      have hz : ∀ y, ext0 b l d m hs x y = 0 := fun y => if_neg (by rw [hE]; first | exact h0 | exact h2 | omega)
      have hh : extH b l d m hs x = [] := if_neg (by rw [hE]; first | exact h0 | exact h2 | omega)
      rw [hz, hz, hz, hz, hh, hE]
      exact ⟨rfl, rfl, rfl, rfl⟩
    · replace h1 : ¬ (x ≤ l) := h1
      refine ⟨by show hs.length ≤ 2000000; first | omega | assumption, ⟨rfl, rfl, rfl⟩, ⟨rfl, rfl, rfl⟩, rfl, rfl, rfl, rfl, by show hs.length ≤ 2000000; first | omega | assumption, fun h2 => ?_, fun h2 => ?_⟩
      · replace h2 : (chkL b x d m hs) ≠ 0 := h2
        refine ⟨⟨rfl, rfl, rfl, Nat.le_of_ble_eq_true rfl⟩, ?_⟩
        have hE : extE b l d m hs x = chkL b x d m hs := by unfold extE; rw [if_pos (Classical.not_not.1 h0), if_neg h1]
        have hz : ∀ y, ext0 b l d m hs x y = 0 := fun y => if_neg (by rw [hE]; first | exact h0 | exact h2 | omega)
        have hh : extH b l d m hs x = [] := if_neg (by rw [hE]; first | exact h0 | exact h2 | omega)
        rw [hz, hz, hz, hz, hh, hE]
        exact ⟨rfl, rfl, rfl, rfl⟩
      · replace h2 : ¬ ((chkL b x d m hs) ≠ 0) := h2
        refine ⟨⟨rfl, rfl, rfl, Nat.le_of_ble_eq_true rfl⟩, ?_⟩
        have hE : extE b l d m hs x = 0 := by unfold extE; rw [if_pos (Classical.not_not.1 h0), if_neg h1]; exact (Classical.not_not.1 h2)
        have hz : ∀ y, ext0 b l d m hs x y = y := fun y => if_pos hE
        have hh : extH b l d m hs x = hs := if_pos hE
        rw [hz, hz, hz, hz, hh, hE]
        exact ⟨rfl, rfl, rfl, rfl⟩
def CExt : List (Nat × Con) := (22, pureC [.v (.cons (.int .i64) (.cons (.int .i64) (.cons (.int .i64) (.cons (.int .i64) (.cons (.sl (.int .i64)) .nil))))), .v (.int .i64)] sExt) :: CTel
theorem kExt : Known Try.prog (En CExt tys [] QAt) := kTel.add Try.func22 Try.call22 [.c [(4, (.int .i64))], .k] fun ds p v bs h hp => by
  unfold sExt at h
  split at h <;> simp only [Option.some.injEq, Prod.mk.injEq, reduceCtorEq] at h
  obtain ⟨rfl, rfl, rfl⟩ := h
  exact bExt _ _ _ _ _ _ hp
def sSaf : List V → Option (Prop × V × List Blk)
  | [.agg [.int .i64 b, .int .i64 l, .int .i64 d, .int .i64 m, .sl false (.int .i64) hs], .int .i64 bad, .int .i64 w, .int .i64 mo] => some (hs.length ≤ 2000000, .tup [.b (safL b l d m hs bad w mo = true), .int .i64 (safE b l d m hs bad w mo)], [])
  | _ => none
set_option maxHeartbeats 1000000 in
theorem bSaf (b : Int) (l : Int) (d : Int) (m : Int) (hs : List Int) (bad : Int) (w : Int) (mo : Int) (hp0 : hs.length ≤ 2000000) : bodyP (En CExt tys [] QAt) Try.f40 [.k, .k] [.agg [.int .i64 b, .int .i64 l, .int .i64 d, .int .i64 m, .sl false (.int .i64) hs], .int .i64 bad, .int .i64 w, .int .i64 mo] (.tup [.b (safL b l d m hs bad w mo = true), .int .i64 (safE b l d m hs bad w mo)]) [] := by
  refine ⟨rfl, rfl, rfl, rfl, rfl, ⟨by show hs.length ≤ 2000000; first | omega | assumption, by show ([]).length ≤ 2000000; first | omega | assumption | (simp only [List.length_cons, List.length_nil, List.length_append, List.length_take, List.length_drop, List.length_set, List.length_replicate]; omega)⟩, fun h0 => ?_, fun h0 => ?_⟩
  · replace h0 : (redL b l d m hs bad ([])) ≠ 0 := h0
    have e : safE b l d m hs bad w mo = redL b l d m hs bad [] := if_neg h0
    have e2 : safL b l d m hs bad w mo = false := by unfold safL; rw [decide_eq_false (by rw [e]; exact h0), Bool.false_and]
    rw [e, e2]
    exact ⟨rfl, rfl, rfl, rfl⟩
  · replace h0 : ¬ ((redL b l d m hs bad ([])) ≠ 0) := h0
    obtain ⟨hc, hb0, hb1, _, _⟩ := red0 (Classical.not_not.1 h0)
    obtain ⟨q1, q2, q3, q4, q5, q6, q7, q8, q9, q10, q11⟩ := id hc
    have hml := mk_len (cntL b l d).toNat (seenC b l d hs bad [])
    have hkn : cntF (fun i => ((mk (cntL b l d).toNat (seenC b l d hs bad [])).getD 0 (List.replicate 12 false)).getD i false) 12 = knwL b l d hs bad := mk_row_cnt (by omega) _
    have hk12 := cntF_le (fun i => ((mk (cntL b l d).toNat (seenC b l d hs bad [])).getD 0 (List.replicate 12 false)).getD i false) 12
    refine ⟨rfl, rfl, rfl, trivial, fun h1 => ?_, fun h1 => ?_⟩
    · replace h1 : ¬ (¬ (1 ≤ w ∧ w ≤ 1000000)) := h1
      refine ⟨rfl, rfl, rfl, trivial, fun h2 => ?_, fun h2 => ?_⟩
      · replace h2 : ¬ (0 ≤ mo ∧ mo ≤ 12) := h2
        have e : safE b l d m hs bad w mo = 3 := by unfold safE; rw [if_pos (Classical.not_not.1 h0), if_neg (by omega)]
        have e2 : safL b l d m hs bad w mo = false := by unfold safL; rw [decide_eq_false (by rw [e]; decide), Bool.false_and]
        rw [e, e2]
        exact ⟨rfl, rfl, rfl, rfl⟩
      · replace h2 : ¬ (¬ (0 ≤ mo ∧ mo ≤ 12)) := h2
        have e : safE b l d m hs bad w mo = 0 := by unfold safE; rw [if_pos (Classical.not_not.1 h0), if_pos (by omega)]
        refine ⟨rfl, rfl, rfl, rfl, rfl, ⟨by assumption, by show 0 ≤ bad; first | omega | assumption, by show ([]).length ≤ 500; first | omega | assumption | (simp only [List.length_cons, List.length_nil, List.length_append, List.length_take, List.length_drop, List.length_set, List.length_replicate]; omega), by first | assumption | simp⟩, ⟨by show (0 : Int) ≤ 0; omega, by show 0 < ((mk (cntL b l d).toNat (seenC b l d hs bad ([]))).length : Int); omega⟩, by exact mk_row_len (N := (cntL b l d).toNat) (by omega) _, rfl, rfl, rfl, rfl, ⟨by show 0 ≤ b; first | omega | assumption, by show b ≤ l; first | omega | assumption, by show l ≤ 1000000; first | omega | assumption, by show 1 ≤ d; first | omega | assumption⟩, 2, [(2, .k), (3, .k), (4, .k), (11, .k), (37, .k), (38, .k)], fun nM vs H => ∃ (k : Nat), (k : Int) ≤ cntL b l d ∧ (List.range k).all (safQ b l d m hs bad w mo) = true ∧ nM = (cntL b l d).toNat - k ∧ vs = [.int .i64 w, .int .i64 mo, .ptr 0 1 0 0, .int .i64 (cntF (fun i => ((mk (cntL b l d).toNat (seenC b l d hs bad ([]))).getD 0 (List.replicate 12 false)).getD i false) 12 : Int), .int .i64 (cntL b l d), .int .i64 (k : Int)] ∧ H = [.cells [.int .i64 b, .int .i64 l, .int .i64 d, .int .i64 m, .sl false (.int .i64) hs], .row true (.arr 12 .bool) (mk (cntL b l d).toNat (seenC b l d hs bad ([])))], ⟨rfl, (cntL b l d).toNat, 0, by omega, rfl, by omega, rfl, rfl⟩, ?_⟩
        rintro nM vs H ⟨k, hc1_0, hc1_1, rfl, rfl, rfl⟩
        refine ⟨fun h3 => ?_, fun h3 => ?_⟩
        · replace h3 : (k : Int) < (cntL b l d) := h3
          obtain ⟨w1, w2, w3, w4, w5, w6, w7⟩ := win_ok (w := w) (mo := mo) hc (by omega) (by omega) (by omega) h3
          refine ⟨rfl, rfl, rfl, rfl, rfl, ⟨by show 0 ≤ b; first | omega | assumption, by show b ≤ l; first | omega | assumption, by show l ≤ 1000000; first | omega | assumption, by show 1 ≤ d; first | omega | assumption, by show d ≤ 1000000; first | omega | assumption, by show 0 ≤ (k : Int); first | omega | assumption, by show (k : Int) < cntL b l d; first | omega | assumption⟩, ⟨by show (-9223372036854775808 : Int) ≤ ((min (expT b l d (k : Int)) 1000000) - (expF b d (k : Int))); omega, by show ((min (expT b l d (k : Int)) 1000000) - (expF b d (k : Int))) ≤ (9223372036854775807 : Int); omega⟩, .inl ⟨⟨by show (0 : Int) ≤ ((min (expT b l d (k : Int)) 1000000) - (expF b d (k : Int))); omega, by show (0 : Int) < w; omega⟩, ?_⟩⟩
          refine ⟨⟨by show (-9223372036854775808 : Int) ≤ ((((min (expT b l d (k : Int)) 1000000) - (expF b d (k : Int))) / w) + 1); omega, by show ((((min (expT b l d (k : Int)) 1000000) - (expF b d (k : Int))) / w) + 1) ≤ (9223372036854775807 : Int); omega⟩, ⟨by show (-9223372036854775808 : Int) ≤ ((hs.length : Int) - (cntF (fun i => ((mk (cntL b l d).toNat (seenC b l d hs bad ([]))).getD 0 (List.replicate 12 false)).getD i false) 12 : Int)); omega, by show ((hs.length : Int) - (cntF (fun i => ((mk (cntL b l d).toNat (seenC b l d hs bad ([]))).getD 0 (List.replicate 12 false)).getD i false) 12 : Int)) ≤ (9223372036854775807 : Int); omega⟩, ⟨by show (-9223372036854775808 : Int) ≤ (mo * ((((min (expT b l d (k : Int)) 1000000) - (expF b d (k : Int))) / w) + 1)); omega, by show (mo * ((((min (expT b l d (k : Int)) 1000000) - (expF b d (k : Int))) / w) + 1)) ≤ (9223372036854775807 : Int); omega⟩, ⟨by show (-9223372036854775808 : Int) ≤ ((cntF (fun i => ((mk (cntL b l d).toNat (seenC b l d hs bad ([]))).getD 0 (List.replicate 12 false)).getD i false) 12 : Int) + (min ((hs.length : Int) - (cntF (fun i => ((mk (cntL b l d).toNat (seenC b l d hs bad ([]))).getD 0 (List.replicate 12 false)).getD i false) 12 : Int)) (mo * ((((min (expT b l d (k : Int)) 1000000) - (expF b d (k : Int))) / w) + 1)))); omega, by show ((cntF (fun i => ((mk (cntL b l d).toNat (seenC b l d hs bad ([]))).getD 0 (List.replicate 12 false)).getD i false) 12 : Int) + (min ((hs.length : Int) - (cntF (fun i => ((mk (cntL b l d).toNat (seenC b l d hs bad ([]))).getD 0 (List.replicate 12 false)).getD i false) 12 : Int)) (mo * ((((min (expT b l d (k : Int)) 1000000) - (expF b d (k : Int))) / w) + 1)))) ≤ (9223372036854775807 : Int); omega⟩, fun h4 => ?_, fun h4 => ?_⟩
          · replace h4 : m ≤ ((cntF (fun i => ((mk (cntL b l d).toNat (seenC b l d hs bad ([]))).getD 0 (List.replicate 12 false)).getD i false) 12 : Int) + (min ((hs.length : Int) - (cntF (fun i => ((mk (cntL b l d).toNat (seenC b l d hs bad ([]))).getD 0 (List.replicate 12 false)).getD i false) 12 : Int)) (mo * ((((min (expT b l d (k : Int)) 1000000) - (expF b d (k : Int))) / w) + 1)))) := h4
            have e2 : safL b l d m hs bad w mo = false := by
              rw [hkn] at h4
              rw [safL, range_all_bad (k := k) (by omega) (decide_eq_false (by unfold winL; omega)), Bool.and_false]
            rw [e, e2]
            exact ⟨rfl, rfl, rfl, rfl⟩
          · replace h4 : ¬ (m ≤ ((cntF (fun i => ((mk (cntL b l d).toNat (seenC b l d hs bad ([]))).getD 0 (List.replicate 12 false)).getD i false) 12 : Int) + (min ((hs.length : Int) - (cntF (fun i => ((mk (cntL b l d).toNat (seenC b l d hs bad ([]))).getD 0 (List.replicate 12 false)).getD i false) 12 : Int)) (mo * ((((min (expT b l d (k : Int)) 1000000) - (expF b d (k : Int))) / w) + 1))))) := h4
            have e2 : safQ b l d m hs bad w mo k = true := by
              rw [hkn] at h4
              exact decide_eq_true (by unfold winL; omega)
            refine ⟨⟨by show (-9223372036854775808 : Int) ≤ ((k : Int) + 1); omega, by show ((k : Int) + 1) ≤ (9223372036854775807 : Int); omega⟩, ?_⟩
            exact ⟨rfl, (cntL b l d).toNat - (k + 1), by omega, k + 1, by omega, by rw [range_all_succ, hc1_1, e2]; rfl, rfl, rfl, rfl⟩
        · replace h3 : ¬ ((k : Int) < (cntL b l d)) := h3
          have e2 : safL b l d m hs bad w mo = true := by rw [safL, decide_eq_true e, Bool.true_and, show (cntL b l d).toNat = k by omega]; exact hc1_1
          rw [e, e2]
          exact ⟨rfl, rfl, rfl, rfl⟩
    · replace h1 : ¬ (1 ≤ w ∧ w ≤ 1000000) := h1
      have e : safE b l d m hs bad w mo = 3 := by unfold safE; rw [if_pos (Classical.not_not.1 h0), if_neg (by omega)]
      have e2 : safL b l d m hs bad w mo = false := by unfold safL; rw [decide_eq_false (by rw [e]; decide), Bool.false_and]
      rw [e, e2]
      exact ⟨rfl, rfl, rfl, rfl⟩
def CSaf : List (Nat × Con) := (40, pureC [.v (.cons (.int .i64) (.cons (.int .i64) (.cons (.int .i64) (.cons (.int .i64) (.cons (.sl (.int .i64)) .nil))))), .v (.int .i64), .v (.int .i64), .v (.int .i64)] sSaf) :: CExt
theorem kSaf : Known Try.prog (En CSaf tys [] QAt) := kExt.add Try.func40 Try.call40 [.k, .k] fun ds p v bs h hp => by
  unfold sSaf at h
  split at h <;> simp only [Option.some.injEq, Prod.mk.injEq, reduceCtorEq] at h
  obtain ⟨rfl, rfl, rfl⟩ := h
  exact bSaf _ _ _ _ _ _ _ _ hp
def sLok : List V → Option (Prop × V × List Blk)
  | [.agg [.int .i64 b, .int .i64 l, .int .i64 d, .int .i64 m, .sl false (.int .i64) hs], .sl false (.int .i64) z, .int .i64 t] => some (hs.length ≤ 2000000 ∧ z.length ≤ 2000000, .tup [.agg [.int .i64 (lokM b l d m hs z t), .int .i64 (lokY b l d m hs z t), .b (lokL b l d m hs z t), .own (.int .i64) 0, .own (.int .i64) 1, .own (.int .i64) 2], .int .i64 (lokE b l d m hs z t)], [.row true (.int .i64) (lokW b l d m hs z t), .row true (.int .i64) (lokT b l d m hs z t), .row true (.int .i64) (lokR b l d m hs z t)])
  | _ => none
set_option maxHeartbeats 2000000 in
theorem bLok (b : Int) (l : Int) (d : Int) (m : Int) (hs : List Int) (z : List Int) (t : Int) (hp0 : hs.length ≤ 2000000) (hp1 : z.length ≤ 2000000) : bodyP (En CSaf tys [] QAt) Try.f38 [.c [(3, (.int .i64)), (4, (.int .i64)), (5, (.int .i64))], .k] [.agg [.int .i64 b, .int .i64 l, .int .i64 d, .int .i64 m, .sl false (.int .i64) hs], .sl false (.int .i64) z, .int .i64 t] (.tup [.agg [.int .i64 (lokM b l d m hs z t), .int .i64 (lokY b l d m hs z t), .b (lokL b l d m hs z t), .own (.int .i64) 0, .own (.int .i64) 1, .own (.int .i64) 2], .int .i64 (lokE b l d m hs z t)]) [.row true (.int .i64) (lokW b l d m hs z t), .row true (.int .i64) (lokT b l d m hs z t), .row true (.int .i64) (lokR b l d m hs z t)] := by
  refine ⟨rfl, rfl, rfl, rfl, by show hs.length ≤ 2000000; first | omega | assumption, fun h0 => ?_, fun h0 => ?_⟩
  · replace h0 : (chkL b l d m hs) ≠ 0 := h0
    refine ⟨⟨rfl, rfl, rfl, Nat.le_of_ble_eq_true rfl⟩, ?_⟩
    have e0 : lokE b l d m hs z t = chkL b l d m hs := if_neg h0
    have en : ¬ lokE b l d m hs z t = 0 := by rw [e0]; exact h0
    rw [e0, show lokM b l d m hs z t = 0 from if_neg en, show lokY b l d m hs z t = 0 from if_neg en, show lokW b l d m hs z t = [] from if_neg en, show lokT b l d m hs z t = [] from if_neg en, show lokR b l d m hs z t = [] from if_neg en, show lokL b l d m hs z t = False from propext ⟨fun h => en h.1, fun h => h.elim⟩]
    exact ⟨rfl, rfl, rfl, rfl⟩
  · replace h0 : ¬ ((chkL b l d m hs) ≠ 0) := h0
    have hc := chk0 (Classical.not_not.1 h0)
    obtain ⟨q1, q2, q3, q4, q5, q6, q7, q8, q9, q10, q11⟩ := id hc
    refine ⟨2, [(1, .k), (2, .k), (3, .k), (6, .k), (24, .k), (25, .k), (26, .k)], fun nM vs H => ∃ (k : Nat), k ≤ z.length ∧ hgF (cntL b l d - 1) (prv z k) (z.drop k) = hgF (cntL b l d - 1) (-1) z ∧ nM = z.length - k ∧ vs = [.sl false (.int .i64) z, .int .i64 t, .ptr 0 1 0 0, .ptr 1 1 0 0, .sl false (.int .i64) z, .int .i64 (z.length : Int), .int .i64 (k : Int)] ∧ H = [.cells [.int .i64 b, .int .i64 l, .int .i64 d, .int .i64 m, .sl false (.int .i64) hs], .cells [.int .i64 0, .int .i64 0, .b False, .nils, .nils, .nils]], ⟨rfl, z.length, 0, by omega, rfl, by omega, rfl, rfl⟩, ?_⟩
    rintro nM vs H ⟨k, hc1_0, hc1_1, rfl, rfl, rfl⟩
    refine ⟨fun h1 => ?_, fun h1 => ?_⟩
    · replace h1 : (k : Int) < (z.length : Int) := h1
      have hkl : k < z.length := by omega
      have hk1 : ((k : Int) - 1).toNat = k - 1 := by omega
      refine ⟨⟨by show (0 : Int) ≤ (k : Int); omega, by show (k : Int) < (z.length : Int); omega⟩, rfl, rfl, rfl, rfl, ⟨by show 0 ≤ b; first | omega | assumption, by show b ≤ l; first | omega | assumption, by show l ≤ 1000000; first | omega | assumption, by show 1 ≤ d; first | omega | assumption⟩, ⟨by show (-9223372036854775808 : Int) ≤ ((cntL b l d) - 1); omega, by show ((cntL b l d) - 1) ≤ (9223372036854775807 : Int); omega⟩, rfl, rfl, rfl, trivial, fun h2 => ?_, fun h2 => ?_⟩
      · replace h2 : ¬ (¬ (0 ≤ (z.getD k 0) ∧ (z.getD k 0) ≤ ((cntL b l d) - 1))) := h2
        refine ⟨fun h3 => ?_, fun h3 => ?_⟩
        · replace h3 : 0 < (k : Int) := h3
          refine ⟨⟨by show (-9223372036854775808 : Int) ≤ ((k : Int) - 1); omega, by show ((k : Int) - 1) ≤ (9223372036854775807 : Int); omega⟩, ⟨by show (0 : Int) ≤ ((k : Int) - 1); omega, by show ((k : Int) - 1) < (z.length : Int); omega⟩, fun h4 => ?_, fun h4 => ?_⟩
          · replace h4 : (z.getD k 0) ≤ (z.getD (((k : Int) - 1).toNat) 0) := h4
            rw [hk1] at h4
            refine ⟨⟨rfl, rfl, rfl, Nat.le_of_ble_eq_true rfl⟩, ?_⟩
            have e0 : lokE b l d m hs z t = 1 := by unfold lokE; rw [if_pos (Classical.not_not.1 h0), hg_bad hkl hc1_1 (by rw [prv_pos z (by omega)]; omega)]; rfl
            have en : ¬ lokE b l d m hs z t = 0 := by rw [e0]; decide
            rw [e0, show lokM b l d m hs z t = 0 from if_neg en, show lokY b l d m hs z t = 0 from if_neg en, show lokW b l d m hs z t = [] from if_neg en, show lokT b l d m hs z t = [] from if_neg en, show lokR b l d m hs z t = [] from if_neg en, show lokL b l d m hs z t = False from propext ⟨fun h => en h.1, fun h => h.elim⟩]
            exact ⟨rfl, rfl, rfl, rfl⟩
          · replace h4 : ¬ ((z.getD k 0) ≤ (z.getD (((k : Int) - 1).toNat) 0)) := h4
            rw [hk1] at h4
            refine ⟨⟨by show (-9223372036854775808 : Int) ≤ ((k : Int) + 1); omega, by show ((k : Int) + 1) ≤ (9223372036854775807 : Int); omega⟩, ?_⟩
            exact ⟨rfl, z.length - (k + 1), by omega, k + 1, by omega, hg_next hkl hc1_1 (by first | (rw [prv_pos z (by omega)]; omega) | (rw [prv_zero z (by omega)]; omega)), rfl, rfl, rfl⟩
        · replace h3 : ¬ (0 < (k : Int)) := h3
          refine ⟨⟨by show (-9223372036854775808 : Int) ≤ ((k : Int) + 1); omega, by show ((k : Int) + 1) ≤ (9223372036854775807 : Int); omega⟩, ?_⟩
          exact ⟨rfl, z.length - (k + 1), by omega, k + 1, by omega, hg_next hkl hc1_1 (by first | (rw [prv_pos z (by omega)]; omega) | (rw [prv_zero z (by omega)]; omega)), rfl, rfl, rfl⟩
      · replace h2 : ¬ (0 ≤ (z.getD k 0) ∧ (z.getD k 0) ≤ ((cntL b l d) - 1)) := h2
        refine ⟨⟨rfl, rfl, rfl, Nat.le_of_ble_eq_true rfl⟩, ?_⟩
        have e0 : lokE b l d m hs z t = 1 := by unfold lokE; rw [if_pos (Classical.not_not.1 h0), hg_bad hkl hc1_1 (by omega)]; rfl
        have en : ¬ lokE b l d m hs z t = 0 := by rw [e0]; decide
        rw [e0, show lokM b l d m hs z t = 0 from if_neg en, show lokY b l d m hs z t = 0 from if_neg en, show lokW b l d m hs z t = [] from if_neg en, show lokT b l d m hs z t = [] from if_neg en, show lokR b l d m hs z t = [] from if_neg en, show lokL b l d m hs z t = False from propext ⟨fun h => en h.1, fun h => h.elim⟩]
        exact ⟨rfl, rfl, rfl, rfl⟩
    · replace h1 : ¬ ((k : Int) < (z.length : Int)) := h1
      have hgo := hg_end (by omega) hc1_0 hc1_1
      refine ⟨rfl, rfl, rfl, trivial, fun h5 => ?_, fun h5 => ?_⟩
      · replace h5 : ¬ (0 ≤ t ∧ t ≤ 1000000) := h5
        refine ⟨⟨rfl, rfl, rfl, Nat.le_of_ble_eq_true rfl⟩, ?_⟩
        have e0 : lokE b l d m hs z t = 3 := by unfold lokE; rw [if_pos (Classical.not_not.1 h0), if_pos hgo, if_neg (by omega)]
        have en : ¬ lokE b l d m hs z t = 0 := by rw [e0]; decide
        rw [e0, show lokM b l d m hs z t = 0 from if_neg en, show lokY b l d m hs z t = 0 from if_neg en, show lokW b l d m hs z t = [] from if_neg en, show lokT b l d m hs z t = [] from if_neg en, show lokR b l d m hs z t = [] from if_neg en, show lokL b l d m hs z t = False from propext ⟨fun h => en h.1, fun h => h.elim⟩]
        exact ⟨rfl, rfl, rfl, rfl⟩
      · replace h5 : ¬ (¬ (0 ≤ t ∧ t ≤ 1000000)) := h5
        obtain ⟨per1, per2⟩ := per_ok hc t
        have e0 : lokE b l d m hs z t = 0 := by unfold lokE; rw [if_pos (Classical.not_not.1 h0), if_pos hgo, if_pos (by omega)]
        have eW : lokW b l d m hs z t = z.filter (wpP b l d t) := if_pos e0
        have eT : lokT b l d m hs z t = z.filter (ltP b l d t) := if_pos e0
        have eR : lokR b l d m hs z t = z.filter (eaP b d t) := if_pos e0
        have eM : lokM b l d m hs z t = perL b l d m hs t := if_pos e0
        refine ⟨rfl, rfl, rfl, rfl, rfl, by show hs.length ≤ 2000000; first | omega | assumption, ⟨rfl, rfl, rfl, Nat.le_of_ble_eq_true rfl⟩, fun h6 => ?_, fun h6 => ?_⟩
        · replace h6 : 0 ≤ (perL b l d m hs t) := h6
          refine ⟨rfl, by show z.length ≤ 2000000; first | omega | assumption, ⟨rfl, rfl, rfl⟩, by kernel_rfl, ⟨by show (-9223372036854775808 : Int) ≤ ((perL b l d m hs t) + 1); omega, by show ((perL b l d m hs t) + 1) ≤ (9223372036854775807 : Int); omega⟩, rfl, rfl, rfl, rfl, ⟨by show 0 ≤ b; first | omega | assumption, by show b ≤ l; first | omega | assumption, by show l ≤ 1000000; first | omega | assumption, by show 1 ≤ d; first | omega | assumption⟩, fun h7 => ?_, fun h7 => ?_⟩
          · replace h7 : ((perL b l d m hs t) + 1) < (cntL b l d) := h7
            refine ⟨⟨by show (-9223372036854775808 : Int) ≤ ((perL b l d m hs t) + 1); omega, by show ((perL b l d m hs t) + 1) ≤ (9223372036854775807 : Int); omega⟩, ⟨rfl, rfl, rfl⟩, 6, [(2, .k), (3, .k), (6, .k), (11, .c [(3, (.int .i64)), (4, (.int .i64)), (5, (.int .i64))]), (79, .k), (80, .k), (81, .k)], fun nM vs H => ∃ (k : Nat), k ≤ z.length ∧ nM = z.length - k ∧ vs = [.int .i64 t, .ptr 0 1 0 0, .ptr 1 1 0 0, .ptr 2 1 0 0, .sl false (.int .i64) z, .int .i64 (z.length : Int), .int .i64 (k : Int)] ∧ H = [.cells [.int .i64 b, .int .i64 l, .int .i64 d, .int .i64 m, .sl false (.int .i64) hs], .cells [.int .i64 0, .int .i64 0, .b False, .nils, .nils, .nils], .cells [.int .i64 (perL b l d m hs t), .int .i64 ((perL b l d m hs t) + 1), .b (¬ ((perL b l d m hs t) ∈ z)), .own (.int .i64) 3, .own (.int .i64) 4, .own (.int .i64) 5], .row true (.int .i64) ((z.take k).filter (wpP b l d t)), .row true (.int .i64) ((z.take k).filter (ltP b l d t)), .row true (.int .i64) ((z.take k).filter (eaP b d t))], ⟨rfl, z.length, 0, by omega, by omega, rfl, rfl⟩, ?_⟩
            rintro nM vs H ⟨k, hc2_0, rfl, rfl, rfl⟩
            have hq0 : k < z.length → 0 ≤ z.getD k 0 ∧ z.getD k 0 ≤ cntL b l d - 1 := hg_at _ z _ k hgo
            have l1 := filter_take_len (wpP b l d t) z k
            have l2 := filter_take_len (ltP b l d t) z k
            have l3 := filter_take_len (eaP b d t) z k
            have f1 : k < z.length → (spanT b l d (z.getD k 0)) < t → (z.take (k + 1)).filter (wpP b l d t) = (z.take k).filter (wpP b l d t) ++ [z.getD k 0] := fun h g => filter_yes 0 _ z k h (decide_eq_true g)
            have f2 : k < z.length → ¬ ((spanT b l d (z.getD k 0)) < t) → (z.take (k + 1)).filter (wpP b l d t) = (z.take k).filter (wpP b l d t) := fun h g => filter_no 0 _ z k h (decide_eq_false g)
            have f3 : k < z.length → (expT b l d (z.getD k 0)) < t → (z.take (k + 1)).filter (ltP b l d t) = (z.take k).filter (ltP b l d t) ++ [z.getD k 0] := fun h g => filter_yes 0 _ z k h (decide_eq_true g)
            have f4 : k < z.length → ¬ ((expT b l d (z.getD k 0)) < t) → (z.take (k + 1)).filter (ltP b l d t) = (z.take k).filter (ltP b l d t) := fun h g => filter_no 0 _ z k h (decide_eq_false g)
            have f5 : k < z.length → t < (expF b d (z.getD k 0)) → (z.take (k + 1)).filter (eaP b d t) = (z.take k).filter (eaP b d t) ++ [z.getD k 0] := fun h g => filter_yes 0 _ z k h (decide_eq_true g)
            have f6 : k < z.length → ¬ (t < (expF b d (z.getD k 0))) → (z.take (k + 1)).filter (eaP b d t) = (z.take k).filter (eaP b d t) := fun h g => filter_no 0 _ z k h (decide_eq_false g)
            refine ⟨fun h8 => ?_, fun h8 => ?_⟩
            · replace h8 : (k : Int) < (z.length : Int) := h8
              refine ⟨⟨by show (0 : Int) ≤ (k : Int); omega, by show (k : Int) < (z.length : Int); omega⟩, rfl, rfl, rfl, rfl, rfl, ⟨by show 0 ≤ b; first | omega | assumption, by show b ≤ l; first | omega | assumption, by show l ≤ 1000000; first | omega | assumption, by show 1 ≤ d; first | omega | assumption, by show d ≤ 1000000; first | omega | assumption, by show 0 ≤ (z.getD k 0); first | omega | assumption, by show (z.getD k 0) < cntL b l d; first | omega | assumption⟩, rfl, rfl, rfl, rfl, rfl, ⟨by show 0 ≤ b; first | omega | assumption, by show b ≤ l; first | omega | assumption, by show l ≤ 1000000; first | omega | assumption, by show 1 ≤ d; first | omega | assumption, by show d ≤ 1000000; first | omega | assumption, by show 0 ≤ (z.getD k 0); first | omega | assumption, by show (z.getD k 0) < cntL b l d; first | omega | assumption⟩, fun h9 => ?_, fun h9 => ?_⟩
              · replace h9 : (spanT b l d (z.getD k 0)) < t := h9
                refine ⟨rfl, ⟨rfl, rfl⟩, by show ((z.take k).filter (wpP b l d t)).length + ([z.getD k 0] : List Int).length ≤ 1000000000; simp only [List.length_cons, List.length_nil]; omega, ⟨rfl, rfl, rfl⟩, fun h10 => ?_, fun h10 => ?_⟩
                · replace h10 : (expT b l d (z.getD k 0)) < t := h10
                  refine ⟨rfl, ⟨rfl, rfl⟩, by show ((z.take k).filter (ltP b l d t)).length + ([z.getD k 0] : List Int).length ≤ 1000000000; simp only [List.length_cons, List.length_nil]; omega, ⟨rfl, rfl, rfl⟩, fun h11 => ?_, fun h11 => ?_⟩
                  · replace h11 : t < (expF b d (z.getD k 0)) := h11
                    refine ⟨rfl, ⟨rfl, rfl⟩, by show ((z.take k).filter (eaP b d t)).length + ([z.getD k 0] : List Int).length ≤ 1000000000; simp only [List.length_cons, List.length_nil]; omega, ⟨rfl, rfl, rfl⟩, ⟨by show (-9223372036854775808 : Int) ≤ ((k : Int) + 1); omega, by show ((k : Int) + 1) ≤ (9223372036854775807 : Int); omega⟩, ?_⟩
                    exact ⟨rfl, z.length - (k + 1), by omega, k + 1, by omega, rfl, rfl, by (first | rw [f1 (by omega) (by assumption)] | rw [f2 (by omega) (by assumption)]); (first | rw [f3 (by omega) (by assumption)] | rw [f4 (by omega) (by assumption)]); (first | rw [f5 (by omega) (by assumption)] | rw [f6 (by omega) (by assumption)]); rfl⟩
                  · replace h11 : ¬ (t < (expF b d (z.getD k 0))) := h11
                    refine ⟨⟨by show (-9223372036854775808 : Int) ≤ ((k : Int) + 1); omega, by show ((k : Int) + 1) ≤ (9223372036854775807 : Int); omega⟩, ?_⟩
                    exact ⟨rfl, z.length - (k + 1), by omega, k + 1, by omega, rfl, rfl, by (first | rw [f1 (by omega) (by assumption)] | rw [f2 (by omega) (by assumption)]); (first | rw [f3 (by omega) (by assumption)] | rw [f4 (by omega) (by assumption)]); (first | rw [f5 (by omega) (by assumption)] | rw [f6 (by omega) (by assumption)]); rfl⟩
                · replace h10 : ¬ ((expT b l d (z.getD k 0)) < t) := h10
                  refine ⟨fun h12 => ?_, fun h12 => ?_⟩
                  · replace h12 : t < (expF b d (z.getD k 0)) := h12
                    refine ⟨rfl, ⟨rfl, rfl⟩, by show ((z.take k).filter (eaP b d t)).length + ([z.getD k 0] : List Int).length ≤ 1000000000; simp only [List.length_cons, List.length_nil]; omega, ⟨rfl, rfl, rfl⟩, ⟨by show (-9223372036854775808 : Int) ≤ ((k : Int) + 1); omega, by show ((k : Int) + 1) ≤ (9223372036854775807 : Int); omega⟩, ?_⟩
                    exact ⟨rfl, z.length - (k + 1), by omega, k + 1, by omega, rfl, rfl, by (first | rw [f1 (by omega) (by assumption)] | rw [f2 (by omega) (by assumption)]); (first | rw [f3 (by omega) (by assumption)] | rw [f4 (by omega) (by assumption)]); (first | rw [f5 (by omega) (by assumption)] | rw [f6 (by omega) (by assumption)]); rfl⟩
                  · replace h12 : ¬ (t < (expF b d (z.getD k 0))) := h12
                    refine ⟨⟨by show (-9223372036854775808 : Int) ≤ ((k : Int) + 1); omega, by show ((k : Int) + 1) ≤ (9223372036854775807 : Int); omega⟩, ?_⟩
                    exact ⟨rfl, z.length - (k + 1), by omega, k + 1, by omega, rfl, rfl, by (first | rw [f1 (by omega) (by assumption)] | rw [f2 (by omega) (by assumption)]); (first | rw [f3 (by omega) (by assumption)] | rw [f4 (by omega) (by assumption)]); (first | rw [f5 (by omega) (by assumption)] | rw [f6 (by omega) (by assumption)]); rfl⟩
              · replace h9 : ¬ ((spanT b l d (z.getD k 0)) < t) := h9
                refine ⟨fun h13 => ?_, fun h13 => ?_⟩
                · replace h13 : (expT b l d (z.getD k 0)) < t := h13
                  refine ⟨rfl, ⟨rfl, rfl⟩, by show ((z.take k).filter (ltP b l d t)).length + ([z.getD k 0] : List Int).length ≤ 1000000000; simp only [List.length_cons, List.length_nil]; omega, ⟨rfl, rfl, rfl⟩, fun h14 => ?_, fun h14 => ?_⟩
                  · replace h14 : t < (expF b d (z.getD k 0)) := h14
                    refine ⟨rfl, ⟨rfl, rfl⟩, by show ((z.take k).filter (eaP b d t)).length + ([z.getD k 0] : List Int).length ≤ 1000000000; simp only [List.length_cons, List.length_nil]; omega, ⟨rfl, rfl, rfl⟩, ⟨by show (-9223372036854775808 : Int) ≤ ((k : Int) + 1); omega, by show ((k : Int) + 1) ≤ (9223372036854775807 : Int); omega⟩, ?_⟩
                    exact ⟨rfl, z.length - (k + 1), by omega, k + 1, by omega, rfl, rfl, by (first | rw [f1 (by omega) (by assumption)] | rw [f2 (by omega) (by assumption)]); (first | rw [f3 (by omega) (by assumption)] | rw [f4 (by omega) (by assumption)]); (first | rw [f5 (by omega) (by assumption)] | rw [f6 (by omega) (by assumption)]); rfl⟩
                  · replace h14 : ¬ (t < (expF b d (z.getD k 0))) := h14
                    refine ⟨⟨by show (-9223372036854775808 : Int) ≤ ((k : Int) + 1); omega, by show ((k : Int) + 1) ≤ (9223372036854775807 : Int); omega⟩, ?_⟩
                    exact ⟨rfl, z.length - (k + 1), by omega, k + 1, by omega, rfl, rfl, by (first | rw [f1 (by omega) (by assumption)] | rw [f2 (by omega) (by assumption)]); (first | rw [f3 (by omega) (by assumption)] | rw [f4 (by omega) (by assumption)]); (first | rw [f5 (by omega) (by assumption)] | rw [f6 (by omega) (by assumption)]); rfl⟩
                · replace h13 : ¬ ((expT b l d (z.getD k 0)) < t) := h13
                  refine ⟨fun h15 => ?_, fun h15 => ?_⟩
                  · replace h15 : t < (expF b d (z.getD k 0)) := h15
                    refine ⟨rfl, ⟨rfl, rfl⟩, by show ((z.take k).filter (eaP b d t)).length + ([z.getD k 0] : List Int).length ≤ 1000000000; simp only [List.length_cons, List.length_nil]; omega, ⟨rfl, rfl, rfl⟩, ⟨by show (-9223372036854775808 : Int) ≤ ((k : Int) + 1); omega, by show ((k : Int) + 1) ≤ (9223372036854775807 : Int); omega⟩, ?_⟩
                    exact ⟨rfl, z.length - (k + 1), by omega, k + 1, by omega, rfl, rfl, by (first | rw [f1 (by omega) (by assumption)] | rw [f2 (by omega) (by assumption)]); (first | rw [f3 (by omega) (by assumption)] | rw [f4 (by omega) (by assumption)]); (first | rw [f5 (by omega) (by assumption)] | rw [f6 (by omega) (by assumption)]); rfl⟩
                  · replace h15 : ¬ (t < (expF b d (z.getD k 0))) := h15
                    refine ⟨⟨by show (-9223372036854775808 : Int) ≤ ((k : Int) + 1); omega, by show ((k : Int) + 1) ≤ (9223372036854775807 : Int); omega⟩, ?_⟩
                    exact ⟨rfl, z.length - (k + 1), by omega, k + 1, by omega, rfl, rfl, by (first | rw [f1 (by omega) (by assumption)] | rw [f2 (by omega) (by assumption)]); (first | rw [f3 (by omega) (by assumption)] | rw [f4 (by omega) (by assumption)]); (first | rw [f5 (by omega) (by assumption)] | rw [f6 (by omega) (by assumption)]); rfl⟩
            · replace h8 : ¬ ((k : Int) < (z.length : Int)) := h8
              refine ⟨⟨rfl, rfl, rfl, Nat.le_of_ble_eq_true rfl⟩, ?_⟩
              have hk : k = z.length := by omega
              have eY : lokY b l d m hs z t = perL b l d m hs t + 1 := by unfold lokY; rw [if_pos e0]; exact if_pos ⟨h6, h7⟩
              have eL : (lokL b l d m hs z t) = (¬ (perL b l d m hs t ∈ z)) := (propext ⟨fun h => ⟨e0, h6, h⟩, fun h => h.2.2⟩).symm
              rw [e0, eW, eT, eR, eM, eY, eL, hk, List.take_length]
              exact ⟨rfl, rfl, rfl, rfl⟩
          · replace h7 : ¬ (((perL b l d m hs t) + 1) < (cntL b l d)) := h7
            refine ⟨6, [(2, .k), (3, .k), (6, .k), (11, .c [(3, (.int .i64)), (4, (.int .i64)), (5, (.int .i64))]), (79, .k), (80, .k), (81, .k)], fun nM vs H => ∃ (k : Nat), k ≤ z.length ∧ nM = z.length - k ∧ vs = [.int .i64 t, .ptr 0 1 0 0, .ptr 1 1 0 0, .ptr 2 1 0 0, .sl false (.int .i64) z, .int .i64 (z.length : Int), .int .i64 (k : Int)] ∧ H = [.cells [.int .i64 b, .int .i64 l, .int .i64 d, .int .i64 m, .sl false (.int .i64) hs], .cells [.int .i64 0, .int .i64 0, .b False, .nils, .nils, .nils], .cells [.int .i64 (perL b l d m hs t), .int .i64 (-1), .b (¬ ((perL b l d m hs t) ∈ z)), .own (.int .i64) 3, .own (.int .i64) 4, .own (.int .i64) 5], .row true (.int .i64) ((z.take k).filter (wpP b l d t)), .row true (.int .i64) ((z.take k).filter (ltP b l d t)), .row true (.int .i64) ((z.take k).filter (eaP b d t))], ⟨rfl, z.length, 0, by omega, by omega, rfl, rfl⟩, ?_⟩
            rintro nM vs H ⟨k, hc3_0, rfl, rfl, rfl⟩
            have hq0 : k < z.length → 0 ≤ z.getD k 0 ∧ z.getD k 0 ≤ cntL b l d - 1 := hg_at _ z _ k hgo
            have l1 := filter_take_len (wpP b l d t) z k
            have l2 := filter_take_len (ltP b l d t) z k
            have l3 := filter_take_len (eaP b d t) z k
            have f1 : k < z.length → (spanT b l d (z.getD k 0)) < t → (z.take (k + 1)).filter (wpP b l d t) = (z.take k).filter (wpP b l d t) ++ [z.getD k 0] := fun h g => filter_yes 0 _ z k h (decide_eq_true g)
            have f2 : k < z.length → ¬ ((spanT b l d (z.getD k 0)) < t) → (z.take (k + 1)).filter (wpP b l d t) = (z.take k).filter (wpP b l d t) := fun h g => filter_no 0 _ z k h (decide_eq_false g)
            have f3 : k < z.length → (expT b l d (z.getD k 0)) < t → (z.take (k + 1)).filter (ltP b l d t) = (z.take k).filter (ltP b l d t) ++ [z.getD k 0] := fun h g => filter_yes 0 _ z k h (decide_eq_true g)
            have f4 : k < z.length → ¬ ((expT b l d (z.getD k 0)) < t) → (z.take (k + 1)).filter (ltP b l d t) = (z.take k).filter (ltP b l d t) := fun h g => filter_no 0 _ z k h (decide_eq_false g)
            have f5 : k < z.length → t < (expF b d (z.getD k 0)) → (z.take (k + 1)).filter (eaP b d t) = (z.take k).filter (eaP b d t) ++ [z.getD k 0] := fun h g => filter_yes 0 _ z k h (decide_eq_true g)
            have f6 : k < z.length → ¬ (t < (expF b d (z.getD k 0))) → (z.take (k + 1)).filter (eaP b d t) = (z.take k).filter (eaP b d t) := fun h g => filter_no 0 _ z k h (decide_eq_false g)
            refine ⟨fun h16 => ?_, fun h16 => ?_⟩
            · replace h16 : (k : Int) < (z.length : Int) := h16
              refine ⟨⟨by show (0 : Int) ≤ (k : Int); omega, by show (k : Int) < (z.length : Int); omega⟩, rfl, rfl, rfl, rfl, rfl, ⟨by show 0 ≤ b; first | omega | assumption, by show b ≤ l; first | omega | assumption, by show l ≤ 1000000; first | omega | assumption, by show 1 ≤ d; first | omega | assumption, by show d ≤ 1000000; first | omega | assumption, by show 0 ≤ (z.getD k 0); first | omega | assumption, by show (z.getD k 0) < cntL b l d; first | omega | assumption⟩, rfl, rfl, rfl, rfl, rfl, ⟨by show 0 ≤ b; first | omega | assumption, by show b ≤ l; first | omega | assumption, by show l ≤ 1000000; first | omega | assumption, by show 1 ≤ d; first | omega | assumption, by show d ≤ 1000000; first | omega | assumption, by show 0 ≤ (z.getD k 0); first | omega | assumption, by show (z.getD k 0) < cntL b l d; first | omega | assumption⟩, fun h17 => ?_, fun h17 => ?_⟩
              · replace h17 : (spanT b l d (z.getD k 0)) < t := h17
                refine ⟨rfl, ⟨rfl, rfl⟩, by show ((z.take k).filter (wpP b l d t)).length + ([z.getD k 0] : List Int).length ≤ 1000000000; simp only [List.length_cons, List.length_nil]; omega, ⟨rfl, rfl, rfl⟩, fun h18 => ?_, fun h18 => ?_⟩
                · replace h18 : (expT b l d (z.getD k 0)) < t := h18
                  refine ⟨rfl, ⟨rfl, rfl⟩, by show ((z.take k).filter (ltP b l d t)).length + ([z.getD k 0] : List Int).length ≤ 1000000000; simp only [List.length_cons, List.length_nil]; omega, ⟨rfl, rfl, rfl⟩, fun h19 => ?_, fun h19 => ?_⟩
                  · replace h19 : t < (expF b d (z.getD k 0)) := h19
                    refine ⟨rfl, ⟨rfl, rfl⟩, by show ((z.take k).filter (eaP b d t)).length + ([z.getD k 0] : List Int).length ≤ 1000000000; simp only [List.length_cons, List.length_nil]; omega, ⟨rfl, rfl, rfl⟩, ⟨by show (-9223372036854775808 : Int) ≤ ((k : Int) + 1); omega, by show ((k : Int) + 1) ≤ (9223372036854775807 : Int); omega⟩, ?_⟩
                    exact ⟨rfl, z.length - (k + 1), by omega, k + 1, by omega, rfl, rfl, by (first | rw [f1 (by omega) (by assumption)] | rw [f2 (by omega) (by assumption)]); (first | rw [f3 (by omega) (by assumption)] | rw [f4 (by omega) (by assumption)]); (first | rw [f5 (by omega) (by assumption)] | rw [f6 (by omega) (by assumption)]); rfl⟩
                  · replace h19 : ¬ (t < (expF b d (z.getD k 0))) := h19
                    refine ⟨⟨by show (-9223372036854775808 : Int) ≤ ((k : Int) + 1); omega, by show ((k : Int) + 1) ≤ (9223372036854775807 : Int); omega⟩, ?_⟩
                    exact ⟨rfl, z.length - (k + 1), by omega, k + 1, by omega, rfl, rfl, by (first | rw [f1 (by omega) (by assumption)] | rw [f2 (by omega) (by assumption)]); (first | rw [f3 (by omega) (by assumption)] | rw [f4 (by omega) (by assumption)]); (first | rw [f5 (by omega) (by assumption)] | rw [f6 (by omega) (by assumption)]); rfl⟩
                · replace h18 : ¬ ((expT b l d (z.getD k 0)) < t) := h18
                  refine ⟨fun h20 => ?_, fun h20 => ?_⟩
                  · replace h20 : t < (expF b d (z.getD k 0)) := h20
                    refine ⟨rfl, ⟨rfl, rfl⟩, by show ((z.take k).filter (eaP b d t)).length + ([z.getD k 0] : List Int).length ≤ 1000000000; simp only [List.length_cons, List.length_nil]; omega, ⟨rfl, rfl, rfl⟩, ⟨by show (-9223372036854775808 : Int) ≤ ((k : Int) + 1); omega, by show ((k : Int) + 1) ≤ (9223372036854775807 : Int); omega⟩, ?_⟩
                    exact ⟨rfl, z.length - (k + 1), by omega, k + 1, by omega, rfl, rfl, by (first | rw [f1 (by omega) (by assumption)] | rw [f2 (by omega) (by assumption)]); (first | rw [f3 (by omega) (by assumption)] | rw [f4 (by omega) (by assumption)]); (first | rw [f5 (by omega) (by assumption)] | rw [f6 (by omega) (by assumption)]); rfl⟩
                  · replace h20 : ¬ (t < (expF b d (z.getD k 0))) := h20
                    refine ⟨⟨by show (-9223372036854775808 : Int) ≤ ((k : Int) + 1); omega, by show ((k : Int) + 1) ≤ (9223372036854775807 : Int); omega⟩, ?_⟩
                    exact ⟨rfl, z.length - (k + 1), by omega, k + 1, by omega, rfl, rfl, by (first | rw [f1 (by omega) (by assumption)] | rw [f2 (by omega) (by assumption)]); (first | rw [f3 (by omega) (by assumption)] | rw [f4 (by omega) (by assumption)]); (first | rw [f5 (by omega) (by assumption)] | rw [f6 (by omega) (by assumption)]); rfl⟩
              · replace h17 : ¬ ((spanT b l d (z.getD k 0)) < t) := h17
                refine ⟨fun h21 => ?_, fun h21 => ?_⟩
                · replace h21 : (expT b l d (z.getD k 0)) < t := h21
                  refine ⟨rfl, ⟨rfl, rfl⟩, by show ((z.take k).filter (ltP b l d t)).length + ([z.getD k 0] : List Int).length ≤ 1000000000; simp only [List.length_cons, List.length_nil]; omega, ⟨rfl, rfl, rfl⟩, fun h22 => ?_, fun h22 => ?_⟩
                  · replace h22 : t < (expF b d (z.getD k 0)) := h22
                    refine ⟨rfl, ⟨rfl, rfl⟩, by show ((z.take k).filter (eaP b d t)).length + ([z.getD k 0] : List Int).length ≤ 1000000000; simp only [List.length_cons, List.length_nil]; omega, ⟨rfl, rfl, rfl⟩, ⟨by show (-9223372036854775808 : Int) ≤ ((k : Int) + 1); omega, by show ((k : Int) + 1) ≤ (9223372036854775807 : Int); omega⟩, ?_⟩
                    exact ⟨rfl, z.length - (k + 1), by omega, k + 1, by omega, rfl, rfl, by (first | rw [f1 (by omega) (by assumption)] | rw [f2 (by omega) (by assumption)]); (first | rw [f3 (by omega) (by assumption)] | rw [f4 (by omega) (by assumption)]); (first | rw [f5 (by omega) (by assumption)] | rw [f6 (by omega) (by assumption)]); rfl⟩
                  · replace h22 : ¬ (t < (expF b d (z.getD k 0))) := h22
                    refine ⟨⟨by show (-9223372036854775808 : Int) ≤ ((k : Int) + 1); omega, by show ((k : Int) + 1) ≤ (9223372036854775807 : Int); omega⟩, ?_⟩
                    exact ⟨rfl, z.length - (k + 1), by omega, k + 1, by omega, rfl, rfl, by (first | rw [f1 (by omega) (by assumption)] | rw [f2 (by omega) (by assumption)]); (first | rw [f3 (by omega) (by assumption)] | rw [f4 (by omega) (by assumption)]); (first | rw [f5 (by omega) (by assumption)] | rw [f6 (by omega) (by assumption)]); rfl⟩
                · replace h21 : ¬ ((expT b l d (z.getD k 0)) < t) := h21
                  refine ⟨fun h23 => ?_, fun h23 => ?_⟩
                  · replace h23 : t < (expF b d (z.getD k 0)) := h23
                    refine ⟨rfl, ⟨rfl, rfl⟩, by show ((z.take k).filter (eaP b d t)).length + ([z.getD k 0] : List Int).length ≤ 1000000000; simp only [List.length_cons, List.length_nil]; omega, ⟨rfl, rfl, rfl⟩, ⟨by show (-9223372036854775808 : Int) ≤ ((k : Int) + 1); omega, by show ((k : Int) + 1) ≤ (9223372036854775807 : Int); omega⟩, ?_⟩
                    exact ⟨rfl, z.length - (k + 1), by omega, k + 1, by omega, rfl, rfl, by (first | rw [f1 (by omega) (by assumption)] | rw [f2 (by omega) (by assumption)]); (first | rw [f3 (by omega) (by assumption)] | rw [f4 (by omega) (by assumption)]); (first | rw [f5 (by omega) (by assumption)] | rw [f6 (by omega) (by assumption)]); rfl⟩
                  · replace h23 : ¬ (t < (expF b d (z.getD k 0))) := h23
                    refine ⟨⟨by show (-9223372036854775808 : Int) ≤ ((k : Int) + 1); omega, by show ((k : Int) + 1) ≤ (9223372036854775807 : Int); omega⟩, ?_⟩
                    exact ⟨rfl, z.length - (k + 1), by omega, k + 1, by omega, rfl, rfl, by (first | rw [f1 (by omega) (by assumption)] | rw [f2 (by omega) (by assumption)]); (first | rw [f3 (by omega) (by assumption)] | rw [f4 (by omega) (by assumption)]); (first | rw [f5 (by omega) (by assumption)] | rw [f6 (by omega) (by assumption)]); rfl⟩
            · replace h16 : ¬ ((k : Int) < (z.length : Int)) := h16
              refine ⟨⟨rfl, rfl, rfl, Nat.le_of_ble_eq_true rfl⟩, ?_⟩
              have hk : k = z.length := by omega
              have eY : lokY b l d m hs z t = -1 := by unfold lokY; rw [if_pos e0]; exact if_neg (fun h => h7 h.2)
              have eL : (lokL b l d m hs z t) = (¬ (perL b l d m hs t ∈ z)) := (propext ⟨fun h => ⟨e0, h6, h⟩, fun h => h.2.2⟩).symm
              rw [e0, eW, eT, eR, eM, eY, eL, hk, List.take_length]
              exact ⟨rfl, rfl, rfl, rfl⟩
        · replace h6 : ¬ (0 ≤ (perL b l d m hs t)) := h6
          refine ⟨6, [(2, .k), (3, .k), (6, .k), (11, .c [(3, (.int .i64)), (4, (.int .i64)), (5, (.int .i64))]), (79, .k), (80, .k), (81, .k)], fun nM vs H => ∃ (k : Nat), k ≤ z.length ∧ nM = z.length - k ∧ vs = [.int .i64 t, .ptr 0 1 0 0, .ptr 1 1 0 0, .ptr 2 1 0 0, .sl false (.int .i64) z, .int .i64 (z.length : Int), .int .i64 (k : Int)] ∧ H = [.cells [.int .i64 b, .int .i64 l, .int .i64 d, .int .i64 m, .sl false (.int .i64) hs], .cells [.int .i64 0, .int .i64 0, .b False, .nils, .nils, .nils], .cells [.int .i64 (perL b l d m hs t), .int .i64 (-1), .b False, .own (.int .i64) 3, .own (.int .i64) 4, .own (.int .i64) 5], .row true (.int .i64) ((z.take k).filter (wpP b l d t)), .row true (.int .i64) ((z.take k).filter (ltP b l d t)), .row true (.int .i64) ((z.take k).filter (eaP b d t))], ⟨rfl, z.length, 0, by omega, by omega, rfl, rfl⟩, ?_⟩
          rintro nM vs H ⟨k, hc4_0, rfl, rfl, rfl⟩
          have hq0 : k < z.length → 0 ≤ z.getD k 0 ∧ z.getD k 0 ≤ cntL b l d - 1 := hg_at _ z _ k hgo
          have l1 := filter_take_len (wpP b l d t) z k
          have l2 := filter_take_len (ltP b l d t) z k
          have l3 := filter_take_len (eaP b d t) z k
          have f1 : k < z.length → (spanT b l d (z.getD k 0)) < t → (z.take (k + 1)).filter (wpP b l d t) = (z.take k).filter (wpP b l d t) ++ [z.getD k 0] := fun h g => filter_yes 0 _ z k h (decide_eq_true g)
          have f2 : k < z.length → ¬ ((spanT b l d (z.getD k 0)) < t) → (z.take (k + 1)).filter (wpP b l d t) = (z.take k).filter (wpP b l d t) := fun h g => filter_no 0 _ z k h (decide_eq_false g)
          have f3 : k < z.length → (expT b l d (z.getD k 0)) < t → (z.take (k + 1)).filter (ltP b l d t) = (z.take k).filter (ltP b l d t) ++ [z.getD k 0] := fun h g => filter_yes 0 _ z k h (decide_eq_true g)
          have f4 : k < z.length → ¬ ((expT b l d (z.getD k 0)) < t) → (z.take (k + 1)).filter (ltP b l d t) = (z.take k).filter (ltP b l d t) := fun h g => filter_no 0 _ z k h (decide_eq_false g)
          have f5 : k < z.length → t < (expF b d (z.getD k 0)) → (z.take (k + 1)).filter (eaP b d t) = (z.take k).filter (eaP b d t) ++ [z.getD k 0] := fun h g => filter_yes 0 _ z k h (decide_eq_true g)
          have f6 : k < z.length → ¬ (t < (expF b d (z.getD k 0))) → (z.take (k + 1)).filter (eaP b d t) = (z.take k).filter (eaP b d t) := fun h g => filter_no 0 _ z k h (decide_eq_false g)
          refine ⟨fun h24 => ?_, fun h24 => ?_⟩
          · replace h24 : (k : Int) < (z.length : Int) := h24
            refine ⟨⟨by show (0 : Int) ≤ (k : Int); omega, by show (k : Int) < (z.length : Int); omega⟩, rfl, rfl, rfl, rfl, rfl, ⟨by show 0 ≤ b; first | omega | assumption, by show b ≤ l; first | omega | assumption, by show l ≤ 1000000; first | omega | assumption, by show 1 ≤ d; first | omega | assumption, by show d ≤ 1000000; first | omega | assumption, by show 0 ≤ (z.getD k 0); first | omega | assumption, by show (z.getD k 0) < cntL b l d; first | omega | assumption⟩, rfl, rfl, rfl, rfl, rfl, ⟨by show 0 ≤ b; first | omega | assumption, by show b ≤ l; first | omega | assumption, by show l ≤ 1000000; first | omega | assumption, by show 1 ≤ d; first | omega | assumption, by show d ≤ 1000000; first | omega | assumption, by show 0 ≤ (z.getD k 0); first | omega | assumption, by show (z.getD k 0) < cntL b l d; first | omega | assumption⟩, fun h25 => ?_, fun h25 => ?_⟩
            · replace h25 : (spanT b l d (z.getD k 0)) < t := h25
              refine ⟨rfl, ⟨rfl, rfl⟩, by show ((z.take k).filter (wpP b l d t)).length + ([z.getD k 0] : List Int).length ≤ 1000000000; simp only [List.length_cons, List.length_nil]; omega, ⟨rfl, rfl, rfl⟩, fun h26 => ?_, fun h26 => ?_⟩
              · replace h26 : (expT b l d (z.getD k 0)) < t := h26
                refine ⟨rfl, ⟨rfl, rfl⟩, by show ((z.take k).filter (ltP b l d t)).length + ([z.getD k 0] : List Int).length ≤ 1000000000; simp only [List.length_cons, List.length_nil]; omega, ⟨rfl, rfl, rfl⟩, fun h27 => ?_, fun h27 => ?_⟩
                · replace h27 : t < (expF b d (z.getD k 0)) := h27
                  refine ⟨rfl, ⟨rfl, rfl⟩, by show ((z.take k).filter (eaP b d t)).length + ([z.getD k 0] : List Int).length ≤ 1000000000; simp only [List.length_cons, List.length_nil]; omega, ⟨rfl, rfl, rfl⟩, ⟨by show (-9223372036854775808 : Int) ≤ ((k : Int) + 1); omega, by show ((k : Int) + 1) ≤ (9223372036854775807 : Int); omega⟩, ?_⟩
                  exact ⟨rfl, z.length - (k + 1), by omega, k + 1, by omega, rfl, rfl, by (first | rw [f1 (by omega) (by assumption)] | rw [f2 (by omega) (by assumption)]); (first | rw [f3 (by omega) (by assumption)] | rw [f4 (by omega) (by assumption)]); (first | rw [f5 (by omega) (by assumption)] | rw [f6 (by omega) (by assumption)]); rfl⟩
                · replace h27 : ¬ (t < (expF b d (z.getD k 0))) := h27
                  refine ⟨⟨by show (-9223372036854775808 : Int) ≤ ((k : Int) + 1); omega, by show ((k : Int) + 1) ≤ (9223372036854775807 : Int); omega⟩, ?_⟩
                  exact ⟨rfl, z.length - (k + 1), by omega, k + 1, by omega, rfl, rfl, by (first | rw [f1 (by omega) (by assumption)] | rw [f2 (by omega) (by assumption)]); (first | rw [f3 (by omega) (by assumption)] | rw [f4 (by omega) (by assumption)]); (first | rw [f5 (by omega) (by assumption)] | rw [f6 (by omega) (by assumption)]); rfl⟩
              · replace h26 : ¬ ((expT b l d (z.getD k 0)) < t) := h26
                refine ⟨fun h28 => ?_, fun h28 => ?_⟩
                · replace h28 : t < (expF b d (z.getD k 0)) := h28
                  refine ⟨rfl, ⟨rfl, rfl⟩, by show ((z.take k).filter (eaP b d t)).length + ([z.getD k 0] : List Int).length ≤ 1000000000; simp only [List.length_cons, List.length_nil]; omega, ⟨rfl, rfl, rfl⟩, ⟨by show (-9223372036854775808 : Int) ≤ ((k : Int) + 1); omega, by show ((k : Int) + 1) ≤ (9223372036854775807 : Int); omega⟩, ?_⟩
                  exact ⟨rfl, z.length - (k + 1), by omega, k + 1, by omega, rfl, rfl, by (first | rw [f1 (by omega) (by assumption)] | rw [f2 (by omega) (by assumption)]); (first | rw [f3 (by omega) (by assumption)] | rw [f4 (by omega) (by assumption)]); (first | rw [f5 (by omega) (by assumption)] | rw [f6 (by omega) (by assumption)]); rfl⟩
                · replace h28 : ¬ (t < (expF b d (z.getD k 0))) := h28
                  refine ⟨⟨by show (-9223372036854775808 : Int) ≤ ((k : Int) + 1); omega, by show ((k : Int) + 1) ≤ (9223372036854775807 : Int); omega⟩, ?_⟩
                  exact ⟨rfl, z.length - (k + 1), by omega, k + 1, by omega, rfl, rfl, by (first | rw [f1 (by omega) (by assumption)] | rw [f2 (by omega) (by assumption)]); (first | rw [f3 (by omega) (by assumption)] | rw [f4 (by omega) (by assumption)]); (first | rw [f5 (by omega) (by assumption)] | rw [f6 (by omega) (by assumption)]); rfl⟩
            · replace h25 : ¬ ((spanT b l d (z.getD k 0)) < t) := h25
              refine ⟨fun h29 => ?_, fun h29 => ?_⟩
              · replace h29 : (expT b l d (z.getD k 0)) < t := h29
                refine ⟨rfl, ⟨rfl, rfl⟩, by show ((z.take k).filter (ltP b l d t)).length + ([z.getD k 0] : List Int).length ≤ 1000000000; simp only [List.length_cons, List.length_nil]; omega, ⟨rfl, rfl, rfl⟩, fun h30 => ?_, fun h30 => ?_⟩
                · replace h30 : t < (expF b d (z.getD k 0)) := h30
                  refine ⟨rfl, ⟨rfl, rfl⟩, by show ((z.take k).filter (eaP b d t)).length + ([z.getD k 0] : List Int).length ≤ 1000000000; simp only [List.length_cons, List.length_nil]; omega, ⟨rfl, rfl, rfl⟩, ⟨by show (-9223372036854775808 : Int) ≤ ((k : Int) + 1); omega, by show ((k : Int) + 1) ≤ (9223372036854775807 : Int); omega⟩, ?_⟩
                  exact ⟨rfl, z.length - (k + 1), by omega, k + 1, by omega, rfl, rfl, by (first | rw [f1 (by omega) (by assumption)] | rw [f2 (by omega) (by assumption)]); (first | rw [f3 (by omega) (by assumption)] | rw [f4 (by omega) (by assumption)]); (first | rw [f5 (by omega) (by assumption)] | rw [f6 (by omega) (by assumption)]); rfl⟩
                · replace h30 : ¬ (t < (expF b d (z.getD k 0))) := h30
                  refine ⟨⟨by show (-9223372036854775808 : Int) ≤ ((k : Int) + 1); omega, by show ((k : Int) + 1) ≤ (9223372036854775807 : Int); omega⟩, ?_⟩
                  exact ⟨rfl, z.length - (k + 1), by omega, k + 1, by omega, rfl, rfl, by (first | rw [f1 (by omega) (by assumption)] | rw [f2 (by omega) (by assumption)]); (first | rw [f3 (by omega) (by assumption)] | rw [f4 (by omega) (by assumption)]); (first | rw [f5 (by omega) (by assumption)] | rw [f6 (by omega) (by assumption)]); rfl⟩
              · replace h29 : ¬ ((expT b l d (z.getD k 0)) < t) := h29
                refine ⟨fun h31 => ?_, fun h31 => ?_⟩
                · replace h31 : t < (expF b d (z.getD k 0)) := h31
                  refine ⟨rfl, ⟨rfl, rfl⟩, by show ((z.take k).filter (eaP b d t)).length + ([z.getD k 0] : List Int).length ≤ 1000000000; simp only [List.length_cons, List.length_nil]; omega, ⟨rfl, rfl, rfl⟩, ⟨by show (-9223372036854775808 : Int) ≤ ((k : Int) + 1); omega, by show ((k : Int) + 1) ≤ (9223372036854775807 : Int); omega⟩, ?_⟩
                  exact ⟨rfl, z.length - (k + 1), by omega, k + 1, by omega, rfl, rfl, by (first | rw [f1 (by omega) (by assumption)] | rw [f2 (by omega) (by assumption)]); (first | rw [f3 (by omega) (by assumption)] | rw [f4 (by omega) (by assumption)]); (first | rw [f5 (by omega) (by assumption)] | rw [f6 (by omega) (by assumption)]); rfl⟩
                · replace h31 : ¬ (t < (expF b d (z.getD k 0))) := h31
                  refine ⟨⟨by show (-9223372036854775808 : Int) ≤ ((k : Int) + 1); omega, by show ((k : Int) + 1) ≤ (9223372036854775807 : Int); omega⟩, ?_⟩
                  exact ⟨rfl, z.length - (k + 1), by omega, k + 1, by omega, rfl, rfl, by (first | rw [f1 (by omega) (by assumption)] | rw [f2 (by omega) (by assumption)]); (first | rw [f3 (by omega) (by assumption)] | rw [f4 (by omega) (by assumption)]); (first | rw [f5 (by omega) (by assumption)] | rw [f6 (by omega) (by assumption)]); rfl⟩
          · replace h24 : ¬ ((k : Int) < (z.length : Int)) := h24
            refine ⟨⟨rfl, rfl, rfl, Nat.le_of_ble_eq_true rfl⟩, ?_⟩
            have hk : k = z.length := by omega
            have eY : lokY b l d m hs z t = -1 := by unfold lokY; rw [if_pos e0]; exact if_neg (fun h => h6 h.1)
            have eL : (lokL b l d m hs z t) = (False) := (propext ⟨fun h => h.elim, fun h => h6 h.2.1⟩).symm
            rw [e0, eW, eT, eR, eM, eY, eL, hk, List.take_length]
            exact ⟨rfl, rfl, rfl, rfl⟩
def CLok : List (Nat × Con) := (38, pureC [.v (.cons (.int .i64) (.cons (.int .i64) (.cons (.int .i64) (.cons (.int .i64) (.cons (.sl (.int .i64)) .nil))))), .v (.sl (.int .i64)), .v (.int .i64)] sLok) :: CSaf
theorem kLok : Known Try.prog (En CLok tys [] QAt) := kSaf.add Try.func38 Try.call38 [.c [(3, (.int .i64)), (4, (.int .i64)), (5, (.int .i64))], .k] fun ds p v bs h hp => by
  unfold sLok at h
  split at h <;> simp only [Option.some.injEq, Prod.mk.injEq, reduceCtorEq] at h
  obtain ⟨rfl, rfl, rfl⟩ := h
  exact bLok _ _ _ _ _ _ _ hp.1 hp.2
end Go.Proofs.Ytgljcfnplkcfhaa.S29

namespace Go.Proofs.Ytgljcfnplkcfhaa.S29
open Go

def lstN (b l d m : Int) (hs : List Int) (bad : Int) : Int := max 0 (m - (knwL b l d hs bad : Int))
/-- a capture that greedy search takes -/
def grdOk (b l d : Int) (hs : List Int) (need : Int) (q : Int) (x : Cp) (h : List Bool) (ls : List Int) : Prop :=
  (((ls.length : Int) < need ∧ expF b d q ≤ x.2.1 ∧ x.2.1 ≤ expT b l d q) ∧ x.1 ∈ hs) ∧ ¬ h.getD x.1.toNat false = true
instance (b l d : Int) (hs : List Int) (need : Int) (q : Int) (x : Cp) (h : List Bool) (ls : List Int) : Decidable (grdOk b l d hs need q x h ls) := by unfold grdOk; infer_instance
def grd (b l d : Int) (hs : List Int) (need : Int) (q : Int) : List Cp → Nat → List Bool → List Int → List Int
  | [], _, _, ls => ls
  | x :: xs, k, h, ls => if grdOk b l d hs need q x h ls then grd b l d hs need q xs (k + 1) (h.set x.1.toNat true) (ls ++ [(k : Int)]) else grd b l d hs need q xs (k + 1) h ls
def rowL (b l d : Int) (hs : List Int) (bad : Int) (q : Nat) : List Bool := (List.range 12).map (seenC b l d hs bad [] q)
def grdL (b l d m : Int) (hs : List Int) (bad : Int) (a : List Cp) (q : Int) : List Int := grd b l d hs (lstN b l d m hs bad) q a 0 (rowL b l d hs bad q.toNat) []
def bst (b l d m : Int) (hs : List Int) (bad : Int) (a : List Cp) : List Int → List Int → List Int
  | [], best => best
  | q :: qs, best => bst b l d m hs bad a qs (if best = [] ∨ cmpS (grdL b l d m hs bad a q) best < 0 then grdL b l d m hs bad a q else best)
def lstE (b l d m : Int) (hs : List Int) (bad : Int) (a : List Cp) : Int := if redL b l d m hs bad a = 0 then (if telL b l d m hs bad a = [] then 8 else 0) else redL b l d m hs bad a
def lstL (b l d m : Int) (hs : List Int) (bad : Int) (a : List Cp) : List Int := if lstE b l d m hs bad a = 0 then bst b l d m hs bad a (telL b l d m hs bad a) [] else []

theorem grd_len {b l d : Int} {hs : List Int} {need q : Int} : ∀ (xs : List Cp) (k : Nat) (h : List Bool) (ls : List Int), (grd b l d hs need q xs k h ls).length ≤ ls.length + xs.length
  | [], k, h, ls => by simp [grd]
  | x :: xs, k, h, ls => by
    unfold grd
    split
    · have := grd_len (b := b) (l := l) (d := d) (hs := hs) (need := need) (q := q) xs (k + 1) (h.set x.1.toNat true) (ls ++ [(k : Int)])
      simp only [List.length_append, List.length_cons, List.length_nil] at *
      omega
    · have := grd_len (b := b) (l := l) (d := d) (hs := hs) (need := need) (q := q) xs (k + 1) h ls
      simp only [List.length_cons] at *
      omega
theorem grd_grows {b l d : Int} {hs : List Int} {need q : Int} : ∀ (xs : List Cp) (k : Nat) (h : List Bool) (ls : List Int), ls.length ≤ (grd b l d hs need q xs k h ls).length
  | [], k, h, ls => by simp [grd]
  | x :: xs, k, h, ls => by
    unfold grd
    split
    · have := grd_grows (b := b) (l := l) (d := d) (hs := hs) (need := need) (q := q) xs (k + 1) (h.set x.1.toNat true) (ls ++ [(k : Int)])
      simp only [List.length_append, List.length_cons, List.length_nil] at this
      omega
    · exact grd_grows xs (k + 1) h ls
theorem grd_none {b l d : Int} {hs : List Int} {need q : Int} : ∀ (xs : List Cp) (k : Nat) (h : List Bool), grd b l d hs need q xs k h [] = [] → ∀ x ∈ xs, ¬ grdOk b l d hs need q x h []
  | [], k, h, _ => by simp
  | x :: xs, k, h, he => by
    unfold grd at he
    split at he
    · have := grd_grows (b := b) (l := l) (d := d) (hs := hs) (need := need) (q := q) xs (k + 1) (h.set x.1.toNat true) ([] ++ [(k : Int)])
      rw [he] at this
      simp at this
    · rename_i hn
      intro y hy
      rcases List.mem_cons.1 hy with rfl | hy
      · exact hn
      · exact grd_none xs (k + 1) h he y hy
theorem tel_mem {b l d m : Int} {hs : List Int} {bad : Int} {a : List Cp} {q : Int} (h : q ∈ telL b l d m hs bad a) : redL b l d m hs bad a = 0 ∧ 0 ≤ q ∧ q < cntL b l d ∧ telP b l d m hs bad a q.toNat = true := by
  unfold telL at h
  split at h
  · rename_i h0
    unfold telG at h
    rw [List.mem_map] at h
    obtain ⟨k, hk, rfl⟩ := h
    rw [List.mem_filter] at hk
    have := List.mem_range.1 hk.1
    refine ⟨h0, Int.natCast_nonneg k, ?_, hk.2⟩
    show (k : Int) < _
    omega
  · simp at h
theorem cntF_mono {f g : Nat → Bool} : ∀ k, (∀ i, i < k → f i = true → g i = true) → cntF f k ≤ cntF g k
  | 0, _ => Nat.le_refl _
  | k + 1, h => by
    have h1 := cntF_mono k fun i hi => h i (by omega)
    have h2 := h k (by omega)
    rw [cntF, cntF]
    split <;> split <;> simp_all <;> omega
/-- where the key is told, something is taken, unless nothing is needed -/
theorem grd_ne {b l d m : Int} {hs : List Int} {bad : Int} {a : List Cp} {q : Int} (hq : q ∈ telL b l d m hs bad a) (he : grdL b l d m hs bad a q = []) : lstN b l d m hs bad ≤ 0 := by
  obtain ⟨h0, h1, h2, h3⟩ := tel_mem hq
  obtain ⟨hc, hb0, hb1, ha, hcap⟩ := red0 h0
  apply Classical.byContradiction
  intro hn
  have hno := grd_none _ _ _ he
  have h4 : m ≤ (cntF (seenC b l d hs bad a q.toNat) 12 : Int) := by simpa [telP] using h3
  have h5 : cntF (seenC b l d hs bad a q.toNat) 12 ≤ cntF (seenC b l d hs bad [] q.toNat) 12 := cntF_mono 12 fun i hi hs1 => by
    apply Classical.byContradiction
    intro hf
    unfold seenC at hs1 hf
    simp only [Bool.and_eq_true, Bool.or_eq_true, List.any_eq_true, List.any_nil, Bool.or_false] at hs1 hf
    obtain ⟨g1, g2⟩ := hs1
    rcases g2 with g2 | ⟨x, hx, g2⟩
    · exact hf ⟨g1, g2⟩
    · unfold capIn at g2
      simp only [Bool.and_eq_true, decide_eq_true_eq] at g2
      obtain ⟨g3, g4⟩ := g2
      unfold exB at g4
      rw [decide_eq_true_eq] at g4
      have e : ((q.toNat : Nat) : Int) = q := by omega
      rw [e] at g4
      refine hno x hx ⟨⟨⟨?_, g4⟩, ?_⟩, ?_⟩
      · show ((0 : Nat) : Int) < _; omega
      · rw [g3]; simpa using g1
      · have e2 : x.1.toNat = i := by omega
        rw [e2, rowL, row_get hi]
        intro g5
        unfold seenC at g5
        simp only [Bool.and_eq_true, Bool.or_eq_true, List.any_nil, Bool.or_false] at g5
        exact hf g5
  have h6 : cntF (seenC b l d hs bad [] q.toNat) 12 = knwL b l d hs bad := cntF_congr fun i hi => by simp [seenC]
  unfold lstN at hn
  omega
theorem telL_len (b l d m hs bad a) : (telL b l d m hs bad a).length ≤ (cntL b l d).toNat := by
  unfold telL
  split
  · exact telG_len ..
  · simp
theorem grd_zero {b l d : Int} {hs : List Int} {need q : Int} (hn : need ≤ 0) : ∀ (xs : List Cp) (k : Nat) (h : List Bool) (ls : List Int), grd b l d hs need q xs k h ls = ls
  | [], _, _, _ => rfl
  | x :: xs, k, h, ls => by
    unfold grd
    rw [if_neg (fun g => by have := g.1.1.1; omega)]
    exact grd_zero hn xs (k + 1) h ls
theorem bst_step {b l d m : Int} {hs : List Int} {bad : Int} {a : List Cp} {T bs : List Int} {k : Nat} (hk : k < T.length) :
    bst b l d m hs bad a (T.drop k) bs = bst b l d m hs bad a (T.drop (k + 1)) (if bs = [] ∨ cmpS (grdL b l d m hs bad a (T.getD k 0)) bs < 0 then grdL b l d m hs bad a (T.getD k 0) else bs) := by
  rw [drop_one 0 T k hk, bst]
theorem bst_keep {g bs : List Int} (h : ¬ cmpS g bs < 0) (h2 : bs = [] → g = []) : (if bs = [] ∨ cmpS g bs < 0 then g else bs) = bs := by
  split
  · rename_i h3
    rcases h3 with h3 | h3
    · rw [h2 h3, h3]
    · exact absurd h3 h
  · rfl
theorem dtrue : @decide (true = true) (Classical.propDecidable _) = true := by simp
theorem cmpS_nil (s : List Int) : ¬ cmpS s [] < 0 := by
  cases s <;> simp [cmpS]
theorem rowL_len (b l d hs bad q) : (rowL b l d hs bad q).length = 12 := by simp [rowL]
end Go.Proofs.Ytgljcfnplkcfhaa.S29

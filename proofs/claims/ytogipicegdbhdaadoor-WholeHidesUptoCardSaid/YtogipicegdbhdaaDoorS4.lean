/- Texts of this claim: S40.CPc, S40.CA2, S40.CTb, S40.L1, S40.L2, S40.CTc, S40.L3. -/
import Derived.Test.YtogipicegdbhdaaDoorS3
set_option linter.unusedVariables false
set_option linter.unusedSimpArgs false
namespace Go.Proofs.YtogipicegdbhdaaDoor.S40c
open Go

theorem mk_row_len {N : Nat} {F : Nat → Nat → Bool} {q : Nat} (h : q < N) (e : List Bool) : ((mk N F).getD q e).length = 12 := by rw [mk_get h]; simp
theorem mk_row_cnt {N : Nat} {F : Nat → Nat → Bool} {q : Nat} (h : q < N) (e : List Bool) : cntF (fun i => ((mk N F).getD q e).getD i false) 12 = cntF (F q) 12 := cntF_congr fun i hi => by rw [mk_get h, row_get hi]
theorem mk_row_set {N : Nat} {F : Nat → Nat → Bool} {q : Nat} (h : q < N) (e : List Bool) : setF2 (fun i => ((mk N F).getD q e).getD i false) 12 = setF2 (F q) 12 := setF2_congr fun i hi => by rw [mk_get h, row_get hi]

theorem pow12 : ∀ k, k < 12 → ((1 : Int) * 2 ^ k ≤ 2048 ∧ 0 ≤ (1 : Int) * 2 ^ k) := by decide
theorem set_or {f : Nat → Bool} {k : Nat} (h : f k = true) : setF2 f k ||| ((1 : Int) * 2 ^ k).toNat = setF2 f (k + 1) := by
  have e : ((1 : Int) * 2 ^ k).toNat = 2 ^ k := by
    rw [Int.one_mul]
    have : ((2 : Int) ^ k) = ((2 ^ k : Nat) : Int) := by simp
    rw [this]; rfl
  rw [e, setF2_or, setF2, if_pos h]
theorem set_no {f : Nat → Bool} {k : Nat} (h : ¬ f k = true) : setF2 f (k + 1) = setF2 f k := by rw [setF2, if_neg h]; rfl
def cmpL (x y : Int) : Int := if x < y then -1 else if y < x then 1 else 0
def cmpS : List Int → List Int → Int
  | [], [] => 0
  | [], _ :: _ => -1
  | _ :: _, [] => 1
  | x :: s, y :: t => if cmpL x y = 0 then cmpS s t else cmpL x y

def safE (b l d m : Int) (hs : List Int) (bad w k : Int) : Int := if redL b l d m hs bad [] = 0 then (if 1 ≤ w ∧ w ≤ 1000000 ∧ 0 ≤ k ∧ k ≤ 12 then 0 else 3) else redL b l d m hs bad []
def knwL (b l d : Int) (hs : List Int) (bad : Int) : Nat := cntF (seenC b l d hs bad [] 0) 12
def winL (b l d w : Int) (q : Nat) : Int := (min (expT b l d q) 1000000 - expF b d q) / w + 1
def safQ (b l d m : Int) (hs : List Int) (bad w k : Int) (q : Nat) : Bool :=
  decide ((knwL b l d hs bad : Int) + min ((hs.length : Int) - knwL b l d hs bad) (k * winL b l d w q) < m)
def safL (b l d m : Int) (hs : List Int) (bad w k : Int) : Bool := decide (safE b l d m hs bad w k = 0) && (List.range (cntL b l d).toNat).all (safQ b l d m hs bad w k)
theorem range_all_succ (p : Nat → Bool) (k : Nat) : (List.range (k + 1)).all p = ((List.range k).all p && p k) := by
  rw [List.range_succ, List.all_append]; simp
theorem range_all_bad {p : Nat → Bool} {k N : Nat} (hk : k < N) (h : p k = false) : (List.range N).all p = false := by
  rw [List.all_eq_false]
  exact ⟨k, by simpa using hk, by simp [h]⟩

/-- increasing, from 0 to a greatest one -/
def hgF (top : Int) : Int → List Int → Bool
  | _, [] => true
  | p, h :: t => decide (0 ≤ h ∧ h ≤ top ∧ p < h) && hgF top h t
theorem hg_bad {top : Int} {hs : List Int} {k : Nat} (hk : k < hs.length) (hc : hgF top (prv hs k) (hs.drop k) = hgF top (-1) hs) (h : ¬ (0 ≤ hs.getD k 0 ∧ hs.getD k 0 ≤ top ∧ prv hs k < hs.getD k 0)) : hgF top (-1) hs = false := by
  rw [← hc, drop_one 0 hs k hk, hgF, decide_eq_false h, Bool.false_and]
theorem hg_next {top : Int} {hs : List Int} {k : Nat} (hk : k < hs.length) (hc : hgF top (prv hs k) (hs.drop k) = hgF top (-1) hs) (h : 0 ≤ hs.getD k 0 ∧ hs.getD k 0 ≤ top ∧ prv hs k < hs.getD k 0) : hgF top (prv hs (k + 1)) (hs.drop (k + 1)) = hgF top (-1) hs := by
  rw [← hc, drop_one 0 hs k hk, hgF, decide_eq_true h, Bool.true_and]; rfl
theorem hg_end {top : Int} {hs : List Int} {k : Nat} (hk : hs.length ≤ k) (h0 : k ≤ hs.length) (hc : hgF top (prv hs k) (hs.drop k) = hgF top (-1) hs) : hgF top (-1) hs = true := by
  rw [← hc, List.drop_eq_nil_of_le hk]; rfl
theorem hg_at (top : Int) : ∀ (l : List Int) (p : Int) (k : Nat), hgF top p l = true → k < l.length → 0 ≤ l.getD k 0 ∧ l.getD k 0 ≤ top
  | [], p, k, _, hk => by simp at hk
  | h :: t, p, 0, hh, hk => by
    simp only [hgF, Bool.and_eq_true, decide_eq_true_eq] at hh
    exact ⟨hh.1.1, hh.1.2.1⟩
  | h :: t, p, k + 1, hh, hk => by
    simp only [hgF, Bool.and_eq_true, decide_eq_true_eq] at hh
    have := hg_at top t h k hh.2 (by simpa using hk)
    simpa using this

def lokE (b l d m : Int) (hs held : List Int) (t : Int) : Int :=
  if chkL b l d m hs = 0 then (if hgF (cntL b l d - 1) (-1) held = true then (if 0 ≤ t ∧ t ≤ 1000000 then 0 else 3) else 1) else chkL b l d m hs
theorem lok0 {b l d m : Int} {hs held : List Int} {t : Int} (h : lokE b l d m hs held t = 0) : Cal b l d m hs ∧ hgF (cntL b l d - 1) (-1) held = true ∧ 0 ≤ t ∧ t ≤ 1000000 := by
  unfold lokE at h
  split at h
  · rename_i h1
    split at h
    · rename_i h2
      split at h
      · rename_i h3; exact ⟨chk0 h1, h2, h3⟩
      · omega
    · omega
  · contradiction
def lokM (b l d m : Int) (hs held : List Int) (t : Int) : Int := if lokE b l d m hs held t = 0 then perL b l d m hs t else 0
def lokY (b l d m : Int) (hs held : List Int) (t : Int) : Int := if lokE b l d m hs held t = 0 then (if 0 ≤ perL b l d m hs t ∧ perL b l d m hs t + 1 < cntL b l d then perL b l d m hs t + 1 else -1) else 0
def lokL (b l d m : Int) (hs held : List Int) (t : Int) : Prop := lokE b l d m hs held t = 0 ∧ 0 ≤ perL b l d m hs t ∧ ¬ perL b l d m hs t ∈ held
def wpP (b l d t : Int) (q : Int) : Bool := decide (spanT b l d q < t)
def ltP (b l d t : Int) (q : Int) : Bool := decide (expT b l d q < t)
def eaP (b d t : Int) (q : Int) : Bool := decide (t < expF b d q)
def lokW (b l d m : Int) (hs held : List Int) (t : Int) : List Int := if lokE b l d m hs held t = 0 then held.filter (wpP b l d t) else []
def lokT (b l d m : Int) (hs held : List Int) (t : Int) : List Int := if lokE b l d m hs held t = 0 then held.filter (ltP b l d t) else []
def lokR (b l d m : Int) (hs held : List Int) (t : Int) : List Int := if lokE b l d m hs held t = 0 then held.filter (eaP b d t) else []
theorem filter_snoc {α : Type} (d : α) (p : α → Bool) (l : List α) (k : Nat) (h : k < l.length) : (l.take (k + 1)).filter p = (l.take k).filter p ++ (if p (l.getD k d) = true then [l.getD k d] else []) := by
  rw [take_snoc d l k h, List.filter_append]
  congr 1
  generalize l.getD k d = x
  split <;> simp_all
theorem filter_yes {α : Type} (d : α) (p : α → Bool) (l : List α) (k : Nat) (h : k < l.length) (hp : p (l.getD k d) = true) : (l.take (k + 1)).filter p = (l.take k).filter p ++ [l.getD k d] := by
  rw [filter_snoc d p l k h, if_pos hp]
theorem filter_no {α : Type} (d : α) (p : α → Bool) (l : List α) (k : Nat) (h : k < l.length) (hp : p (l.getD k d) = false) : (l.take (k + 1)).filter p = (l.take k).filter p := by
  rw [filter_snoc d p l k h, if_neg (by rw [hp]; simp), List.append_nil]
theorem per_ok {b l d m : Int} {hs : List Int} (hc : Cal b l d m hs) (t : Int) : -1 ≤ perL b l d m hs t ∧ perL b l d m hs t < cntL b l d := by
  have h1 := hc.c1
  unfold perL
  split
  · rename_i h
    have h2 := Int.ediv_le_ediv (by have := hc.n1; omega : 0 < d) (by omega : t - b ≤ l - b)
    have h3 := Int.ediv_nonneg (by omega : 0 ≤ t - b) (by have := hc.n1; omega : 0 ≤ d)
    unfold cntL
    omega
  · omega
theorem filter_take_len {α : Type} (p : α → Bool) (l : List α) (k : Nat) : ((l.take k).filter p).length ≤ l.length := Nat.le_trans (List.length_filter_le _ _) (by rw [List.length_take]; omega)

def extE (b l d m : Int) (hs : List Int) (x : Int) : Int := if chkL b l d m hs = 0 then (if x ≤ l then 4 else chkL b x d m hs) else chkL b l d m hs
def ext0 (b l d m : Int) (hs : List Int) (x y : Int) : Int := if extE b l d m hs x = 0 then y else 0
def extH (b l d m : Int) (hs : List Int) (x : Int) : List Int := if extE b l d m hs x = 0 then hs else []
theorem win_ok {b l d m w mo : Int} {hs : List Int} (hc : Cal b l d m hs) (hw : 1 ≤ w) (h0 : 0 ≤ mo) (h12 : mo ≤ 12) {q : Nat} (hq : (q : Int) < cntL b l d) :
    0 ≤ min (expT b l d q) 1000000 - expF b d q ∧ 0 ≤ expF b d q ∧ expT b l d q ≤ 1000002 ∧ 0 ≤ (min (expT b l d q) 1000000 - expF b d q) / w ∧ (min (expT b l d q) 1000000 - expF b d q) / w ≤ 1000000 ∧
      0 ≤ mo * ((min (expT b l d q) 1000000 - expF b d q) / w + 1) ∧ mo * ((min (expT b l d q) 1000000 - expF b d q) / w + 1) ≤ 20000000 := by
  obtain ⟨z1, z2, z3⟩ := hc.qn (q := q) (by omega) hq
  obtain ⟨z4, z5⟩ := hc.qn1 (q := q) (by omega) hq
  have a1 := hc.b0
  have a2 := hc.l1
  have a3 := hc.n1
  have a4 := hc.bl
  have e1 : 0 ≤ min (expT b l d q) 1000000 - expF b d q := by unfold expT expF; omega
  have e2 : 0 ≤ expF b d q := by unfold expF; omega
  have e3 : expT b l d q ≤ 1000002 := by unfold expT; omega
  have e4 := Int.ediv_nonneg e1 (by omega : 0 ≤ w)
  have e5 := Int.ediv_le_self w e1
  have e6 : 0 ≤ mo * ((min (expT b l d q) 1000000 - expF b d q) / w + 1) := Int.mul_nonneg h0 (by omega)
  have e7 : mo * ((min (expT b l d q) 1000000 - expF b d q) / w + 1) ≤ 12 * ((min (expT b l d q) 1000000 - expF b d q) / w + 1) := Int.mul_le_mul_of_nonneg_right h12 (by omega)
  exact ⟨e1, e2, e3, e4, by omega, e6, by omega⟩
end Go.Proofs.YtogipicegdbhdaaDoor.S40c

namespace Go.Proofs.YtogipicegdbhdaaDoor.S40c
open Go Go.Proofs.YtogipicegdbhdaaDoor.Vc Go.Proofs
set_option maxRecDepth 100000
set_option linter.unusedVariables false
open Go.Proofs.YtogipicegdbhdaaDoor.S40
def sRdy : List V → Option (Prop × V × List Blk)
  | [.agg [.int .i64 b, .int .i64 l, .int .i64 d, .int .i64 m, .sl false (.int .i64) hs], .int .i64 bad, .sl false (.cons (.int .i64) (.cons (.int .i64) .nil)) a] => some (hs.length ≤ 2000000 ∧ a.length ≤ 2000000, .int .i64 (redL b l d m hs bad a), [])
  | _ => none
set_option maxHeartbeats 1000000 in
theorem bRdy (b : Int) (l : Int) (d : Int) (m : Int) (hs : List Int) (bad : Int) (a : List (Int × (Int × Unit))) (hp0 : hs.length ≤ 2000000) (hp1 : a.length ≤ 2000000) : bodyP (En CSeen tys G6 QAt) Tryd.f36 [.k] [.agg [.int .i64 b, .int .i64 l, .int .i64 d, .int .i64 m, .sl false (.int .i64) hs], .int .i64 bad, .sl false (.cons (.int .i64) (.cons (.int .i64) .nil)) a] (.int .i64 (redL b l d m hs bad a)) [] := by
  refine ⟨rfl, rfl, rfl, rfl, by show hs.length ≤ 2000000; first | omega | assumption, fun h0 => ?_, fun h0 => ?_⟩
  · replace h0 : (chkL b l d m hs) ≠ 0 := h0
    refine ⟨rfl, rfl, ?_, rfl⟩
    unfold redL
    repeat' split
    all_goals first | rfl | omega | (exfalso; simp_all; done)
  · replace h0 : ¬ ((chkL b l d m hs) ≠ 0) := h0
    refine ⟨rfl, rfl, rfl, trivial, fun h1 => ?_, fun h1 => ?_⟩
    · replace h1 : ¬ (0 ≤ bad ∧ bad ≤ 4095) := h1
      refine ⟨rfl, rfl, ?_, rfl⟩
      unfold redL
      repeat' split
      all_goals first | rfl | omega | (exfalso; simp_all; done)
    · replace h1 : ¬ (¬ (0 ≤ bad ∧ bad ≤ 4095)) := h1
      refine ⟨by show a.length ≤ 2000000; first | omega | assumption, ?_⟩
      refine ⟨rfl, rfl, ?_, rfl⟩
      unfold redL
      repeat' split
      all_goals first | rfl | omega | (exfalso; simp_all; done)
def CRdy : List (Nat × Con) := (36, pureC [.v (.cons (.int .i64) (.cons (.int .i64) (.cons (.int .i64) (.cons (.int .i64) (.cons (.sl (.int .i64)) .nil))))), .v (.int .i64), .v (.sl (.cons (.int .i64) (.cons (.int .i64) .nil)))] sRdy) :: CSeen
theorem kRdy : Known Tryd.prog (En CRdy tys G6 QAt) := kSeen.add Tryd.func36 Tryd.call36 [.k] fun ds p v bs h hp => by
  unfold sRdy at h
  split at h <;> simp only [Option.some.injEq, Prod.mk.injEq, reduceCtorEq] at h
  obtain ⟨rfl, rfl, rfl⟩ := h
  exact bRdy _ _ _ _ _ _ _ hp.1 hp.2
def sSeenS : List V → Option (Prop × V × List Blk)
  | [.agg [.int .i64 b, .int .i64 l, .int .i64 d, .int .i64 m, .sl false (.int .i64) hs], .sl false (.cons (.int .i64) (.cons (.int .i64) .nil)) a, .int .i64 q] => some (hs.length ≤ 2000000 ∧ a.length ≤ 2000000, .tup [.int .i64 (senL b l d m hs a q), .int .i64 (senE b l d m hs a q)], [])
  | _ => none
set_option maxHeartbeats 1000000 in
theorem bSeenS (b : Int) (l : Int) (d : Int) (m : Int) (hs : List Int) (a : List (Int × (Int × Unit))) (q : Int) (hp0 : hs.length ≤ 2000000) (hp1 : a.length ≤ 2000000) : bodyP (En CRdy tys G6 QAt) Tryd.f13 [.k, .k] [.agg [.int .i64 b, .int .i64 l, .int .i64 d, .int .i64 m, .sl false (.int .i64) hs], .sl false (.cons (.int .i64) (.cons (.int .i64) .nil)) a, .int .i64 q] (.tup [.int .i64 (senL b l d m hs a q), .int .i64 (senE b l d m hs a q)]) [] := by
  refine ⟨rfl, rfl, rfl, rfl, by show hs.length ≤ 2000000; first | omega | assumption, fun h0 => ?_, fun h0 => ?_⟩
  · replace h0 : (chkL b l d m hs) ≠ 0 := h0
    rw [show senL b l d m hs a q = 0 from if_neg (fun h => h0 h.1), show senE b l d m hs a q = chkL b l d m hs from if_neg h0]
    exact ⟨rfl, rfl, rfl, rfl⟩
  · replace h0 : ¬ ((chkL b l d m hs) ≠ 0) := h0
    refine ⟨by show a.length ≤ 2000000; first | omega | assumption, fun h1 => ?_, fun h1 => ?_⟩
    · replace h1 : (capL a) ≠ 0 := h1
      rw [show senL b l d m hs a q = 0 from if_neg (fun h => h1 h.2.1), show senE b l d m hs a q = capL a by unfold senE; rw [if_pos (Classical.not_not.1 h0), if_neg h1]]
      exact ⟨rfl, rfl, rfl, rfl⟩
    · replace h1 : ¬ ((capL a) ≠ 0) := h1
      refine ⟨rfl, rfl, rfl, rfl, rfl, by show hs.length ≤ 2000000; first | omega | assumption, fun h2 => ?_, fun h2 => ?_⟩
      · replace h2 : (askL b l d m hs q) ≠ 0 := h2
        rw [show senL b l d m hs a q = 0 from if_neg (fun h => h2 h.2.2), show senE b l d m hs a q = askL b l d m hs q by unfold senE; rw [if_pos (Classical.not_not.1 h0), if_pos (Classical.not_not.1 h1)]]
        exact ⟨rfl, rfl, rfl, rfl⟩
      · replace h2 : ¬ ((askL b l d m hs q) ≠ 0) := h2
        obtain ⟨hc, hq0, hq1⟩ := ask0 (Classical.not_not.1 h2)
        obtain ⟨hca1, hca2⟩ := cap0 (Classical.not_not.1 h1)
        obtain ⟨q1, q2, q3, q4, q5, q6, q7, q8, q9, q10, q11⟩ := id hc
        have hml := mk_len (cntL b l d).toNat (seenC b l d hs 0 a)
        have e1 : senL b l d m hs a q = (setF2 (fun i => ((mk (cntL b l d).toNat (seenC b l d hs 0 a)).getD q.toNat (List.replicate 12 false)).getD i false) 12 : Int) := by unfold senL; rw [if_pos ⟨(Classical.not_not.1 h0), (Classical.not_not.1 h1), (Classical.not_not.1 h2)⟩, mk_row_set (N := (cntL b l d).toNat) (q := q.toNat) (by omega)]
        have e2 : senE b l d m hs a q = 0 := by unfold senE; rw [if_pos (Classical.not_not.1 h0), if_pos (Classical.not_not.1 h1)]; exact (Classical.not_not.1 h2)
        refine ⟨rfl, rfl, rfl, rfl, rfl, ⟨by assumption, by omega, by show a.length ≤ 500; first | omega | assumption, by first | assumption | simp⟩, ⟨by show (0 : Int) ≤ q; omega, by show q < ((mk (cntL b l d).toNat (seenC b l d hs 0 a)).length : Int); omega⟩, 2, [(11, .k), (35, .k), (36, .k)], fun nM vs H => ∃ (k : Nat), k ≤ 12 ∧ nM = 12 - k ∧ vs = [.int .i64 (setF2 (fun i => ((mk (cntL b l d).toNat (seenC b l d hs 0 a)).getD q.toNat (List.replicate 12 false)).getD i false) k : Int), .dat true (.arr 12 .bool) ((mk (cntL b l d).toNat (seenC b l d hs 0 a)).getD q.toNat (List.replicate 12 false)), .int .i64 (k : Int)] ∧ H = [.cells [.int .i64 b, .int .i64 l, .int .i64 d, .int .i64 m, .sl false (.int .i64) hs], .row true (.arr 12 .bool) (mk (cntL b l d).toNat (seenC b l d hs 0 a))], ⟨rfl, 12, 0, by omega, by omega, rfl, rfl⟩, ?_⟩
        rintro nM vs H ⟨k, hc1_0, rfl, rfl, rfl⟩
        refine ⟨fun h3 => ?_, fun h3 => ?_⟩
        · replace h3 : (k : Int) < 12 := h3
          have hsb := setF2_bound (fun i => ((mk (cntL b l d).toNat (seenC b l d hs 0 a)).getD q.toNat (List.replicate 12 false)).getD i false) hc1_0
          obtain ⟨hp1, hp2⟩ := pow12 k (by omega)
          refine ⟨⟨by show (0 : Int) ≤ (k : Int); omega, by show (k : Int) < (12 : Int); omega⟩, fun h4 => ?_, fun h4 => ?_⟩
          · replace h4 : (((mk (cntL b l d).toNat (seenC b l d hs 0 a)).getD q.toNat (List.replicate 12 false)).getD k false) = true := h4
            have e := set_or (f := fun i => ((mk (cntL b l d).toNat (seenC b l d hs 0 a)).getD q.toNat (List.replicate 12 false)).getD i false) (k := k) h4
            refine ⟨⟨by show (0 : Int) ≤ (k : Int); omega, by show (k : Int) ≤ (64 : Int); omega⟩, ⟨by show (-9223372036854775808 : Int) ≤ 1 * 2 ^ k; omega, by show 1 * 2 ^ k ≤ (9223372036854775807 : Int); omega⟩, .inl ⟨⟨by show (0 : Int) ≤ (setF2 (fun i => ((mk (cntL b l d).toNat (seenC b l d hs 0 a)).getD q.toNat (List.replicate 12 false)).getD i false) k : Int); omega, by show (0 : Int) ≤ (1 * 2 ^ k); omega⟩, ?_⟩⟩
            refine ⟨⟨by show (-9223372036854775808 : Int) ≤ ((k : Int) + 1); omega, by show ((k : Int) + 1) ≤ (9223372036854775807 : Int); omega⟩, ?_⟩
            first | exact ⟨rfl, 12 - (k + 1), by omega, k + 1, by omega, rfl, by rw [← e]; rfl, rfl⟩ | exact ⟨rfl, 12 - (k + 1), by omega, k + 1, by omega, rfl, by rw [e]; rfl, rfl⟩
          · replace h4 : ¬ ((((mk (cntL b l d).toNat (seenC b l d hs 0 a)).getD q.toNat (List.replicate 12 false)).getD k false) = true) := h4
            have e := set_no (f := fun i => ((mk (cntL b l d).toNat (seenC b l d hs 0 a)).getD q.toNat (List.replicate 12 false)).getD i false) (k := k) h4
            refine ⟨⟨by show (-9223372036854775808 : Int) ≤ ((k : Int) + 1); omega, by show ((k : Int) + 1) ≤ (9223372036854775807 : Int); omega⟩, ?_⟩
            first | exact ⟨rfl, 12 - (k + 1), by omega, k + 1, by omega, rfl, by rw [← e]; rfl, rfl⟩ | exact ⟨rfl, 12 - (k + 1), by omega, k + 1, by omega, rfl, by rw [e]; rfl, rfl⟩
        · replace h3 : ¬ ((k : Int) < 12) := h3
          obtain rfl : k = 12 := by omega
          rw [e1, e2]
          exact ⟨rfl, rfl, rfl, rfl⟩
def CSeenS : List (Nat × Con) := (13, pureC [.v (.cons (.int .i64) (.cons (.int .i64) (.cons (.int .i64) (.cons (.int .i64) (.cons (.sl (.int .i64)) .nil))))), .v (.sl (.cons (.int .i64) (.cons (.int .i64) .nil))), .v (.int .i64)] sSeenS) :: CRdy
theorem kSeenS : Known Tryd.prog (En CSeenS tys G6 QAt) := kRdy.add Tryd.func13 Tryd.call13 [.k, .k] fun ds p v bs h hp => by
  unfold sSeenS at h
  split at h <;> simp only [Option.some.injEq, Prod.mk.injEq, reduceCtorEq] at h
  obtain ⟨rfl, rfl, rfl⟩ := h
  exact bSeenS _ _ _ _ _ _ _ hp.1 hp.2
def sTel : List V → Option (Prop × V × List Blk)
  | [.agg [.int .i64 b, .int .i64 l, .int .i64 d, .int .i64 m, .sl false (.int .i64) hs], .int .i64 bad, .sl false (.cons (.int .i64) (.cons (.int .i64) .nil)) a] => some (hs.length ≤ 2000000 ∧ a.length ≤ 2000000, .tup [.own (.int .i64) 0, .int .i64 (redL b l d m hs bad a)], [.row true (.int .i64) (telL b l d m hs bad a)])
  | _ => none
set_option maxHeartbeats 1000000 in
theorem bTel (b : Int) (l : Int) (d : Int) (m : Int) (hs : List Int) (bad : Int) (a : List (Int × (Int × Unit))) (hp0 : hs.length ≤ 2000000) (hp1 : a.length ≤ 2000000) : bodyP (En CSeenS tys G6 QAt) Tryd.f12 [.o (.int .i64), .k] [.agg [.int .i64 b, .int .i64 l, .int .i64 d, .int .i64 m, .sl false (.int .i64) hs], .int .i64 bad, .sl false (.cons (.int .i64) (.cons (.int .i64) .nil)) a] (.tup [.own (.int .i64) 0, .int .i64 (redL b l d m hs bad a)]) [.row true (.int .i64) (telL b l d m hs bad a)] := by
  refine ⟨rfl, rfl, rfl, rfl, rfl, ⟨by show hs.length ≤ 2000000; first | omega | assumption, by show a.length ≤ 2000000; first | omega | assumption⟩, fun h0 => ?_, fun h0 => ?_⟩
  · replace h0 : (redL b l d m hs bad a) ≠ 0 := h0
    rw [show telL b l d m hs bad a = [] from if_neg h0]
    exact ⟨rfl, rfl, rfl, rfl⟩
  · replace h0 : ¬ ((redL b l d m hs bad a) ≠ 0) := h0
    obtain ⟨hc, hb0, hb1, hca1, hca2⟩ := red0 (Classical.not_not.1 h0)
    obtain ⟨q1, q2, q3, q4, q5, q6, q7, q8, q9, q10, q11⟩ := id hc
    obtain ⟨N, hN⟩ : ∃ N : Nat, cntL b l d = (N : Int) := ⟨(cntL b l d).toNat, by omega⟩
    have hml := mk_len (cntL b l d).toNat (seenC b l d hs bad a)
    refine ⟨rfl, rfl, rfl, rfl, rfl, ⟨by assumption, by show 0 ≤ bad; first | omega | assumption, by show a.length ≤ 500; first | omega | assumption, by first | assumption | simp⟩, 2, [(3, .k), (9, .o (.int .i64)), (22, .o (.arr 12 .bool)), (23, .k), (24, .k)], fun nM vs H => ∃ (k : Nat), k ≤ N ∧ nM = N - k ∧ vs = [.ptr 0 1 0 0, .own (.int .i64) 2, .own (.arr 12 .bool) 1, .int .i64 (((mk (cntL b l d).toNat (seenC b l d hs bad a)).length : Nat) : Int), .int .i64 (k : Int)] ∧ H = [.cells [.int .i64 b, .int .i64 l, .int .i64 d, .int .i64 m, .sl false (.int .i64) hs], .row true (.arr 12 .bool) (mk (cntL b l d).toNat (seenC b l d hs bad a)), .row true (.int .i64) (telG b l d m hs bad a k)], ⟨rfl, N, 0, by omega, by omega, rfl, rfl⟩, ?_⟩
    rintro nM vs H ⟨k, hc1_0, rfl, rfl, rfl⟩
    refine ⟨fun h1 => ?_, fun h1 => ?_⟩
    · replace h1 : (k : Int) < (((mk (cntL b l d).toNat (seenC b l d hs bad a)).length : Nat) : Int) := h1
      have htl := telG_len b l d m hs bad a k
      have hrl := mk_row_len (F := seenC b l d hs bad a) (N := (cntL b l d).toNat) (q := k) (by omega) (List.replicate 12 false)
      have hcnt := mk_row_cnt (F := seenC b l d hs bad a) (N := (cntL b l d).toNat) (q := k) (by omega) (List.replicate 12 false)
      refine ⟨⟨by show (0 : Int) ≤ (k : Int); omega, by show (k : Int) < ((mk (cntL b l d).toNat (seenC b l d hs bad a)).length : Int); omega⟩, ⟨rfl, rfl, rfl, by first | assumption | rfl | simp, rfl⟩, by kernel_rfl, by first | assumption | rfl | simp, by exact mk_row_len (N := (cntL b l d).toNat) (by omega) _, fun h2 => ?_, fun h2 => ?_⟩
      · replace h2 : m ≤ (cntF (fun i => ((mk (cntL b l d).toNat (seenC b l d hs bad a)).getD k (List.replicate 12 false)).getD i false) 12 : Int) := h2
        rw [hcnt] at h2
        have tp : telP b l d m hs bad a k = true := decide_eq_true h2
        refine ⟨rfl, ⟨rfl, rfl⟩, by show (telG b l d m hs bad a k).length + ([(k : Int)] : List Int).length ≤ 1000000000; simp only [List.length_cons, List.length_nil]; omega, ⟨by show (-9223372036854775808 : Int) ≤ ((k : Int) + 1); omega, by show ((k : Int) + 1) ≤ (9223372036854775807 : Int); omega⟩, ?_⟩
        first | exact ⟨rfl, N - (k + 1), by omega, k + 1, by omega, rfl, rfl, by rw [telG_succ, if_pos tp]; rfl⟩ | exact ⟨rfl, N - (k + 1), by omega, k + 1, by omega, rfl, rfl, by rw [telG_succ, if_neg tp, List.append_nil]; rfl⟩
      · replace h2 : ¬ (m ≤ (cntF (fun i => ((mk (cntL b l d).toNat (seenC b l d hs bad a)).getD k (List.replicate 12 false)).getD i false) 12 : Int)) := h2
        rw [hcnt] at h2
        have tp : ¬ telP b l d m hs bad a k = true := by unfold telP; rw [decide_eq_true_eq]; exact h2
        refine ⟨⟨by show (-9223372036854775808 : Int) ≤ ((k : Int) + 1); omega, by show ((k : Int) + 1) ≤ (9223372036854775807 : Int); omega⟩, ?_⟩
        first | exact ⟨rfl, N - (k + 1), by omega, k + 1, by omega, rfl, rfl, by rw [telG_succ, if_pos tp]; rfl⟩ | exact ⟨rfl, N - (k + 1), by omega, k + 1, by omega, rfl, rfl, by rw [telG_succ, if_neg tp, List.append_nil]; rfl⟩
    · replace h1 : ¬ ((k : Int) < (((mk (cntL b l d).toNat (seenC b l d hs bad a)).length : Nat) : Int)) := h1
      rw [show telL b l d m hs bad a = telG b l d m hs bad a k by rw [telL, if_pos (Classical.not_not.1 h0), show (cntL b l d).toNat = k by omega], (Classical.not_not.1 h0)]
      exact ⟨rfl, rfl, rfl, rfl⟩
def CTel : List (Nat × Con) := (12, pureC [.v (.cons (.int .i64) (.cons (.int .i64) (.cons (.int .i64) (.cons (.int .i64) (.cons (.sl (.int .i64)) .nil))))), .v (.int .i64), .v (.sl (.cons (.int .i64) (.cons (.int .i64) .nil)))] sTel) :: CSeenS
theorem kTel : Known Tryd.prog (En CTel tys G6 QAt) := kSeenS.add Tryd.func12 Tryd.call12 [.o (.int .i64), .k] fun ds p v bs h hp => by
  unfold sTel at h
  split at h <;> simp only [Option.some.injEq, Prod.mk.injEq, reduceCtorEq] at h
  obtain ⟨rfl, rfl, rfl⟩ := h
  exact bTel _ _ _ _ _ _ _ hp.1 hp.2
end Go.Proofs.YtogipicegdbhdaaDoor.S40c

namespace Go.Proofs.YtogipicegdbhdaaDoor.S40c
open Go Go.Proofs.YtogipicegdbhdaaDoor.Vc Go.Proofs Go.Proofs.YtogipicegdbhdaaDoor.S40
set_option maxRecDepth 100000

def nzQ (ns : List UInt8) (n : Nat) (m : Int) (q : Nat) : List UInt8 := nzL ns (7 * (q : Int)).toNat ((((n : Int) * (m - 1)) * ((m - 1) + 1)) / 2).toNat
def perK (ns : List UInt8) (n : Nat) (m : Int) (hs : List Int) : Nat → List (Int × List UInt8 × Unit)
  | 0 => splL (nzL ns 0 n) m hs (nzL ns n ((n : Int) * (m - 1)).toNat)
  | q + 1 => (perK ns n m hs q).map (upS (mkN m n (nzQ ns n m (q + 1))) (mkC m n (nzQ ns n m (q + 1))))
theorem perK_next {ns : List UInt8} {n : Nat} {m : Int} {hs : List Int} {q : Nat} (h : 1 ≤ q) : perK ns n m hs q = (perK ns n m hs (q - 1)).map (upS (mkN m n (nzQ ns n m q)) (mkC m n (nzQ ns n m q))) := by
  obtain ⟨k, rfl⟩ : ∃ k, q = k + 1 := ⟨q - 1, by omega⟩
  rfl
def perA (ns : List UInt8) (n : Nat) (m : Int) (hs : List Int) (k : Nat) : List (List (Int × List UInt8 × Unit)) := (List.range k).map (perK ns n m hs)
theorem perA_len (ns : List UInt8) (n : Nat) (m : Int) (hs : List Int) (k : Nat) : (perA ns n m hs k).length = k := by simp [perA]
theorem perA_snoc (ns : List UInt8) (n : Nat) (m : Int) (hs : List Int) (k : Nat) : perA ns n m hs (k + 1) = perA ns n m hs k ++ [perK ns n m hs k] := by unfold perA; rw [List.range_succ, List.map_append]; rfl
theorem perA_get {ns : List UInt8} {n : Nat} {m : Int} {hs : List Int} {k q : Nat} (h : q < k) : (perA ns n m hs k).getD q [] = perK ns n m hs q := by simp [perA, List.getD_eq_getElem?_getD, h]

/-! ### what a keeper is -/
theorem ho_ok : ∀ (l : List Int) (p : Int), -1 ≤ p → hsF p l = true → (∀ x ∈ l, p < x ∧ knw x) ∧ l.Pairwise (· < ·)
  | [], _, _, _ => ⟨fun x hx => (by cases hx), .nil⟩
  | h :: t, p, hp, hh => by
    simp only [hsF, Bool.and_eq_true, decide_eq_true_eq] at hh
    obtain ⟨h1, h2⟩ := ho_ok t h (by omega) hh.2
    refine ⟨fun x hx => ?_, List.pairwise_cons.2 ⟨fun x hx => (h1 x hx).1, h2⟩⟩
    rcases List.mem_cons.1 hx with e | hx
    · subst e; exact ⟨hh.1.2.2, hh.1.1, by omega⟩
    · exact ⟨by have := (h1 x hx).1; omega, (h1 x hx).2⟩
theorem pair_ok {hs : List Int} (h1 : ∀ x ∈ hs, knw x) (h2 : hs.Pairwise (· < ·)) : hsOk hs = true := by
  refine List.all_eq_true.2 fun k hk => decide_eq_true ?_
  have hk := List.mem_range.1 hk
  refine ⟨h1 _ (S40.getD_mem 0 hs k hk), ?_⟩
  rcases Nat.eq_zero_or_pos k with e | e
  · exact .inl e
  · right
    have := List.pairwise_iff_getElem.1 h2 (k - 1) k (by omega) hk (by omega)
    simpa [List.getD_eq_getElem?_getD, hk, show k - 1 < hs.length by omega] using this
structure Kp (b l d m : Int) (hs : List Int) (n : Nat) : Prop where
  cal : Cal b l d m hs
  m2 : 2 ≤ m
  n1 : 1 ≤ n
  n8 : n ≤ 8
theorem Kp.ok {b l d m : Int} {hs : List Int} {n : Nat} (h : Kp b l d m hs n) : hsOk hs = true := by
  obtain ⟨h1, h2⟩ := ho_ok hs (-1) (by omega) h.cal.ho
  exact pair_ok (fun x hx => (h1 x hx).2) h2
theorem Kp.m12 {b l d m : Int} {hs : List Int} {n : Nat} (h : Kp b l d m hs n) : m ≤ 12 := by have := h.cal.m2; have := h.cal.h12; omega
theorem Kp.bd {b l d m : Int} {hs : List Int} {n : Nat} (h : Kp b l d m hs n) : (0 ≤ (n : Int) * (m - 1) ∧ (n : Int) * (m - 1) ≤ 45056) ∧ (0 ≤ ((n : Int) * (m - 1)) * ((m - 1) + 1) ∧ ((n : Int) * (m - 1)) * ((m - 1) + 1) ≤ 540672) ∧ (((n : Int) * (m - 1)) * ((m - 1) + 1)) / 2 = (n : Int) * (((m - 1) * m) / 2) :=
  prod_bd h.m2 h.m12 (by omega) (by have := h.n8; omega)
theorem Kp.spl {b l d m : Int} {hs : List Int} {n : Nat} (h : Kp b l d m hs n) (ns : List UInt8) : Spl (nzL ns 0 n) m hs (nzL ns n ((n : Int) * (m - 1)).toNat) := by
  have := h.n8; have := h.m2; have := h.m12; have := h.cal.m2; have := h.bd.1
  refine ⟨by rw [nzL_len]; omega, by omega, by omega, by omega, h.ok, ?_⟩
  rw [nzL_len, nzL_len, Int.toNat_of_nonneg (by omega)]
theorem Kp.mke {b l d m : Int} {hs : List Int} {n : Nat} (h : Kp b l d m hs n) (ns : List UInt8) (q : Nat) : mkE m n (nzQ ns n m q) = 0 := by
  have := h.n8; have := h.m2; have := h.m12; have h2 := h.bd
  unfold mkE
  rw [if_neg (by omega), if_pos]
  unfold nzQ
  rw [nzL_len, h2.2.2, Int.toNat_of_nonneg]
  have := h2.2.1
  omega
theorem Kp.mkn {b l d m : Int} {hs : List Int} {n : Nat} (h : Kp b l d m hs n) (ns : List UInt8) (q : Nat) : mkN m n (nzQ ns n m q) = m := if_pos (h.mke ns q)
theorem Kp.deal {b l d m : Int} {hs : List Int} {n : Nat} (h : Kp b l d m hs n) (ns : List UInt8) (q : Nat) : chkD m (mkC m n (nzQ ns n m q)) = 0 ∧ n00 (mkC m n (nzQ ns n m q)) = n := by
  obtain ⟨h1, h2⟩ := mk_deal (h.mke ns q)
  exact ⟨h1, h2⟩
theorem Kp.ready {b l d m : Int} {hs : List Int} {n : Nat} (h : Kp b l d m hs n) (ns : List UInt8) : ∀ q, Ready (nzL ns 0 n) m hs (perK ns n m hs q)
  | 0 => ⟨fine_spl (h.spl ns), h.ok, by have := h.m2; omega, h.m12, by rw [nzL_len]; have := h.n8; omega⟩
  | q + 1 => by
    rw [perK, h.mkn]
    exact (h.ready ns q).up (h.deal ns (q + 1)).1 (by rw [nzL_len]; exact (h.deal ns (q + 1)).2)
theorem Kp.mx {b l d m : Int} {hs : List Int} {n : Nat} (h : Kp b l d m hs n) (ns : List UInt8) (q : Nat) : (mkC m n (nzQ ns n m q)).length ≤ 1048576 ∧ ∀ x ∈ mkC m n (nzQ ns n m q), x.length ≤ 1048576 ∧ ∀ y ∈ x, y.length ≤ 1048576 := by
  obtain ⟨h1, h2⟩ := h.deal ns q
  have D := chkD0 h1
  have n3 := D.len; have n12 := D.n12; have := D.max
  exact ⟨by omega, fun x hx => ⟨by have := D.rows x hx; omega, fun y hy => by have := D.strs x hx y hy; omega⟩⟩
theorem Kp.len {b l d m : Int} {hs : List Int} {n : Nat} (h : Kp b l d m hs n) (ns : List UInt8) (q : Nat) : (perK ns n m hs q).length = hs.length := by
  have e := congrArg List.length (h.ready ns q).hm
  rwa [List.length_map] at e
theorem Kp.one {b l d m : Int} {hs : List Int} {n : Nat} (h : Kp b l d m hs n) (ns : List UInt8) (q p : Nat) {s : Int × List UInt8 × Unit} (hs' : s ∈ perK ns n m hs q) :
    rowE (mkN m n (nzQ ns n m p)) (mkC m n (nzQ ns n m p)) s.1 = 0 ∧ updE s.1 s.2.1 [rowL (mkN m n (nzQ ns n m p)) (mkC m n (nzQ ns n m p)) s.1] = 0 ∧ (rowL (mkN m n (nzQ ns n m p)) (mkC m n (nzQ ns n m p)) s.1).length ≤ 1048576 := by
  have R := h.ready ns q
  have K : knw s.1 := hs_knw R.ok _ (by rw [← R.hm]; exact List.mem_map.2 ⟨s, hs', rfl⟩)
  have hl := R.len s hs'
  rw [nzL_len] at hl
  have U := up_one (h.deal ns p).1 K (by rw [hl]; exact (h.deal ns p).2.symm)
  rw [h.mkn]
  refine ⟨U.1, U.2.1, ?_⟩
  rw [S40.rowL, if_pos U.1]
  show (List.map _ _).length ≤ _
  rw [List.length_map]; exact (h.mx ns p).1
def fewK (ct : List UInt8) (b l d m : Int) (hs : List Int) : Prop := 1 ≤ ct.length ∧ ct.length ≤ 6 ∧ hs.length ≤ 6 ∧ 2 ≤ m ∧ chkL b l d m hs = 0 ∧ (if chkL b l d m hs = 0 then cntL b l d else 0) ≤ 4 ∧ 1 ≤ (if chkL b l d m hs = 0 then cntL b l d else 0)
end Go.Proofs.YtogipicegdbhdaaDoor.S40c

namespace Go.Proofs.YtogipicegdbhdaaDoor.S40c
open Go Go.Proofs.YtogipicegdbhdaaDoor.Vc Go.Proofs
set_option maxRecDepth 100000
set_option linter.unusedVariables false
open Go.Proofs.YtogipicegdbhdaaDoor.S40
def sNoi : List V → Option (Prop × V × List Blk)
  | [.str s, .int .i64 a, .int .i64 n] => some (0 ≤ a ∧ a ≤ 1000000 ∧ 0 ≤ n ∧ n ≤ 1000000 ∧ s.length ≤ 1048576, .str (nzL s (Int.toNat a) (Int.toNat n)), [])
  | _ => none
set_option maxHeartbeats 1000000 in
theorem bNoi (s : List UInt8) (a : Int) (n : Int) (hp0 : 0 ≤ a) (hp1 : a ≤ 1000000) (hp2 : 0 ≤ n) (hp3 : n ≤ 1000000) (hp4 : s.length ≤ 1048576) : bodyP (En CTel tys G6 QAt) Tryd.f17 [.k] [.str s, .int .i64 a, .int .i64 n] (.str (nzL s (Int.toNat a) (Int.toNat n))) [] := by
  have hrl : (List.replicate n.toNat (0 : UInt8)).length = n.toNat := List.length_replicate ..
  refine ⟨⟨rfl, by show (0 : Int) ≤ n; omega, by show n ≤ (1000000000 : Int); omega⟩, 0, [(0, .k), (1, .k), (7, .o .u8), (12, .k), (13, .k)], fun nM vs H => ∃ (k : Nat), k ≤ n.toNat ∧ nM = n.toNat - k ∧ vs = [.str s, .int .i64 a, .own .u8 0, .int .i64 (((List.replicate n.toNat (0 : UInt8)).length : Nat) : Int), .int .i64 (k : Int)] ∧ H = [.row true .u8 (fillF (nzF s a.toNat) n.toNat k)], ⟨rfl, n.toNat, 0, by omega, by omega, rfl, by rw [fill_zero]; rfl⟩, ?_⟩
  rintro nM vs H ⟨k, hc1_0, rfl, rfl, rfl⟩
  have hfl := fill_len (nzF s a.toNat) n.toNat k
  refine ⟨fun h0 => ?_, fun h0 => ?_⟩
  · replace h0 : (k : Int) < (((List.replicate n.toNat (0 : UInt8)).length : Nat) : Int) := h0
    refine ⟨fun h1 => ?_, fun h1 => ?_⟩
    · replace h1 : 0 < (s.length : Int) := h1
      have hs : 0 < s.length := by omega
      have ea : ((a + (k : Int)) % (s.length : Int)).toNat = (a.toNat + k) % s.length := by rw [show a + (k : Int) = ((a.toNat + k : Nat) : Int) by omega, ← Int.natCast_emod, Int.toNat_natCast]
      have em1 := Int.emod_nonneg (a + (k : Int)) (b := (s.length : Int)) (by omega)
      have em2 := Int.emod_lt_of_pos (a + (k : Int)) (b := (s.length : Int)) (by omega)
      have es := nz_is (a := a.toNat) (k := k) hs
      refine ⟨⟨by show (-9223372036854775808 : Int) ≤ (a + (k : Int)); omega, by show (a + (k : Int)) ≤ (9223372036854775807 : Int); omega⟩, .inl ⟨⟨by show (0 : Int) ≤ (a + (k : Int)); omega, by show (0 : Int) < (s.length : Int); omega⟩, ?_⟩⟩
      refine ⟨⟨by show (0 : Int) ≤ ((a + (k : Int)) % (s.length : Int)); omega, by show ((a + (k : Int)) % (s.length : Int)) < (s.length : Int); omega⟩, ⟨by show (0 : Int) ≤ (k : Int); omega, by show (k : Int) < ((fillF (nzF s a.toNat) n.toNat k).length : Int); omega⟩, ⟨rfl, rfl⟩, ⟨by show (-9223372036854775808 : Int) ≤ ((k : Int) + 1); omega, by show ((k : Int) + 1) ≤ (9223372036854775807 : Int); omega⟩, ?_⟩
      first
      | exact ⟨rfl, n.toNat - (k + 1), by omega, k + 1, by omega, rfl, rfl, by rw [← fill_set (nzF s a.toNat) (by omega : k < n.toNat), es, ← ea]; rfl⟩
      | exact ⟨rfl, n.toNat - (k + 1), by omega, k + 1, by omega, rfl, rfl, by rw [ez]; rfl⟩
    · replace h1 : ¬ (0 < (s.length : Int)) := h1
      have ez := nz_skip (a := a.toNat) (n := n.toNat) (k := k) (show ¬ 0 < s.length by omega)
      refine ⟨⟨by show (-9223372036854775808 : Int) ≤ ((k : Int) + 1); omega, by show ((k : Int) + 1) ≤ (9223372036854775807 : Int); omega⟩, ?_⟩
      first
      | exact ⟨rfl, n.toNat - (k + 1), by omega, k + 1, by omega, rfl, rfl, by rw [← fill_set (nzF s a.toNat) (by omega : k < n.toNat), es, ← ea]; rfl⟩
      | exact ⟨rfl, n.toNat - (k + 1), by omega, k + 1, by omega, rfl, rfl, by rw [ez]; rfl⟩
  · replace h0 : ¬ ((k : Int) < (((List.replicate n.toNat (0 : UInt8)).length : Nat) : Int)) := h0
    rw [show k = n.toNat by omega, fill_all]
    exact ⟨rfl, rfl, rfl, rfl⟩
def CNoi : List (Nat × Con) := (17, pureC [.v .str, .v (.int .i64), .v (.int .i64)] sNoi) :: CTel
theorem kNoi : Known Tryd.prog (En CNoi tys G6 QAt) := kTel.add Tryd.func17 Tryd.call17 [.k] fun ds p v bs h hp => by
  unfold sNoi at h
  split at h <;> simp only [Option.some.injEq, Prod.mk.injEq, reduceCtorEq] at h
  obtain ⟨rfl, rfl, rfl⟩ := h
  exact bNoi _ _ _ hp.1 hp.2.1 hp.2.2.1 hp.2.2.2.1 hp.2.2.2.2
def sPrd : List V → Option (Prop × V × List Blk)
  | [.agg [.str ct, .str ns, .int .i64 b, .int .i64 l, .int .i64 d, .int .i64 m, .sl false (.int .i64) hs]] => some (chkL b l d m hs = 0 ∧ 2 ≤ m ∧ hs.length ≤ 6 ∧ 1 ≤ ct.length ∧ ct.length ≤ 6 ∧ ns.length ≤ 1048576 ∧ cntL b l d ≤ 4, .tup [.own (.sl (.cons (.int .i64) (.cons .str .nil))) 0, .str (nzL ns 0 ct.length), .b True], [.row true (.sl (.cons (.int .i64) (.cons .str .nil))) (perA ns ct.length m hs (cntL b l d).toNat)])
  | _ => none
set_option maxHeartbeats 4000000 in
theorem bPrd (ct : List UInt8) (ns : List UInt8) (b : Int) (l : Int) (d : Int) (m : Int) (hs : List Int) (hp0 : chkL b l d m hs = 0) (hp1 : 2 ≤ m) (hp2 : hs.length ≤ 6) (hp3 : 1 ≤ ct.length) (hp4 : ct.length ≤ 6) (hp5 : ns.length ≤ 1048576) (hp6 : cntL b l d ≤ 4) : bodyP (En CNoi tys G6 QAt [1000002]) Tryd.f8 [.o (.sl (.cons (.int .i64) (.cons .str .nil))), .k, .k] [.agg [.str ct, .str ns, .int .i64 b, .int .i64 l, .int .i64 d, .int .i64 m, .sl false (.int .i64) hs]] (.tup [.own (.sl (.cons (.int .i64) (.cons .str .nil))) 0, .str (nzL ns 0 ct.length), .b True]) [.row true (.sl (.cons (.int .i64) (.cons .str .nil))) (perA ns ct.length m hs (cntL b l d).toNat)] := by
  have hc := chk0 hp0
  have hK : Kp b l d m hs ct.length := ⟨hc, hp1, hp3, by omega⟩
  obtain ⟨⟨bd1, bd2⟩, ⟨bd3, bd4⟩, _⟩ := hK.bd
  have hm2 := hc.m2
  have hc1 := hc.c1
  have hS := hK.spl ns
  refine ⟨⟨rfl, rfl, rfl, Nat.le_of_ble_eq_true rfl⟩, rfl, rfl, ⟨by omega, by omega, by show 0 ≤ (ct.length : Int); first | omega | assumption, by show (ct.length : Int) ≤ 1000000; first | omega | assumption, by show ns.length ≤ 1048576; first | omega | assumption⟩, by kernel_rfl, ⟨by show (-9223372036854775808 : Int) ≤ (m - 1); omega, by show (m - 1) ≤ (9223372036854775807 : Int); omega⟩, ⟨by show (-9223372036854775808 : Int) ≤ ((ct.length : Int) * (m - 1)); omega, by show ((ct.length : Int) * (m - 1)) ≤ (9223372036854775807 : Int); omega⟩, rfl, rfl, ⟨by show 0 ≤ (ct.length : Int); first | omega | assumption, by show (ct.length : Int) ≤ 1000000; first | omega | assumption, by show 0 ≤ ((ct.length : Int) * (m - 1)); first | omega | assumption, by show ((ct.length : Int) * (m - 1)) ≤ 1000000; first | omega | assumption, by show ns.length ≤ 1048576; first | omega | assumption⟩, rfl, ⟨by show (nzL ns (Int.toNat 0) (Int.toNat (ct.length : Int))).length ≤ 1048576; rw [nzL_len]; omega, by show hs.length ≤ 1048576; first | omega | assumption, by show (nzL ns (Int.toNat (ct.length : Int)) (Int.toNat ((ct.length : Int) * (m - 1)))).length ≤ 1048576; rw [nzL_len]; omega⟩, fun h0 => ?_, fun h0 => ?_⟩
  · replace h0 : (splE (nzL ns (Int.toNat 0) (Int.toNat (ct.length : Int))) m hs (nzL ns (Int.toNat (ct.length : Int)) (Int.toNat ((ct.length : Int) * (m - 1))))) ≠ 0 := h0
    exact (h0 hS.e).elim
  · replace h0 : ¬ ((splE (nzL ns (Int.toNat 0) (Int.toNat (ct.length : Int))) m hs (nzL ns (Int.toNat (ct.length : Int)) (Int.toNat ((ct.length : Int) * (m - 1))))) ≠ 0) := h0
    refine ⟨3, [(1, .k), (5, .k), (6, .k), (7, .k), (8, .k), (10, .o (.sl (.cons (.int .i64) (.cons .str .nil)))), (11, .k)], fun nM vs H => ∃ (q : Nat), 1 ≤ q ∧ q ≤ (cntL b l d).toNat ∧ nM = (cntL b l d).toNat - q ∧ vs = [.ptr 0 1 0 0, .int .i64 (ct.length : Int), .ptr 1 1 0 0, .str (nzL ns (Int.toNat 0) (Int.toNat (ct.length : Int))), .sl true (.cons (.int .i64) (.cons .str .nil)) (perK ns ct.length m hs (q - 1)), .own (.sl (.cons (.int .i64) (.cons .str .nil))) 3, .int .i64 (q : Int)] ∧ H = [.cells [.str ct, .str ns, .int .i64 b, .int .i64 l, .int .i64 d, .int .i64 m, .sl false (.int .i64) hs], .cells [.int .i64 b, .int .i64 l, .int .i64 d, .int .i64 m, .sl false (.int .i64) hs], .dead, .row true (.sl (.cons (.int .i64) (.cons .str .nil))) (perA ns ct.length m hs q)], ⟨rfl, (cntL b l d).toNat - 1, 1, by omega, by omega, by omega, rfl, rfl⟩, ?_⟩
    rintro nM vs H ⟨q, hc1_0, hc1_1, rfl, rfl, rfl⟩
    refine ⟨rfl, rfl, rfl, rfl, by show hs.length ≤ 2000000; first | omega | assumption, fun h1 => ?_, fun h1 => ?_⟩
    · replace h1 : (q : Int) < (if chkL b l d m hs = 0 then cntL b l d else 0) := h1
      rw [if_pos hp0] at h1
      refine ⟨⟨by show (-9223372036854775808 : Int) ≤ (m - 1); omega, by show (m - 1) ≤ (9223372036854775807 : Int); omega⟩, by kernel_rfl, ⟨by show (-9223372036854775808 : Int) ≤ (7 * (q : Int)); omega, by show (7 * (q : Int)) ≤ (9223372036854775807 : Int); omega⟩, ⟨by show (-9223372036854775808 : Int) ≤ ((ct.length : Int) * (m - 1)); omega, by show ((ct.length : Int) * (m - 1)) ≤ (9223372036854775807 : Int); omega⟩, ⟨by show (-9223372036854775808 : Int) ≤ ((m - 1) + 1); omega, by show ((m - 1) + 1) ≤ (9223372036854775807 : Int); omega⟩, ⟨by show (-9223372036854775808 : Int) ≤ (((ct.length : Int) * (m - 1)) * ((m - 1) + 1)); omega, by show (((ct.length : Int) * (m - 1)) * ((m - 1) + 1)) ≤ (9223372036854775807 : Int); omega⟩, .inl ⟨⟨by show (0 : Int) ≤ (((ct.length : Int) * (m - 1)) * ((m - 1) + 1)); omega, by show (0 : Int) < 2; omega⟩, ?_⟩⟩
      refine ⟨rfl, rfl, ⟨by show 0 ≤ (7 * (q : Int)); first | omega | assumption, by show (7 * (q : Int)) ≤ 1000000; first | omega | assumption, by show 0 ≤ ((((ct.length : Int) * (m - 1)) * ((m - 1) + 1)) / 2); first | omega | assumption, by show ((((ct.length : Int) * (m - 1)) * ((m - 1) + 1)) / 2) ≤ 1000000; first | omega | assumption, by show ns.length ≤ 1048576; first | omega | assumption⟩, rfl, rfl, by show m ≤ 6; first | omega | assumption, ⟨rfl, rfl, rfl, Nat.le_of_ble_eq_true rfl⟩, fun h2 => ?_, fun h2 => ?_⟩
      · replace h2 : (mkE m (ct.length : Int) (nzL ns (Int.toNat (7 * (q : Int))) (Int.toNat ((((ct.length : Int) * (m - 1)) * ((m - 1) + 1)) / 2)))) ≠ 0 := h2
        exact (h2 (hK.mke ns q)).elim
      · replace h2 : ¬ ((mkE m (ct.length : Int) (nzL ns (Int.toNat (7 * (q : Int))) (Int.toNat ((((ct.length : Int) * (m - 1)) * ((m - 1) + 1)) / 2)))) ≠ 0) := h2
        have hmx := hK.mx ns q
        refine ⟨5, [(1, .k), (5, .k), (6, .k), (7, .k), (10, .k), (11, .k), (13, .k), (15, .o (.cons (.int .i64) (.cons .str .nil))), (83, .k), (84, .k), (85, .k)], fun nM vs H => ∃ (i : Nat), i ≤ (perK ns ct.length m hs (q - 1)).length ∧ nM = (perK ns ct.length m hs (q - 1)).length - i ∧ vs = [.ptr 0 1 0 0, .int .i64 (ct.length : Int), .ptr 1 1 0 0, .str (nzL ns (Int.toNat 0) (Int.toNat (ct.length : Int))), .own (.sl (.cons (.int .i64) (.cons .str .nil))) 3, .int .i64 (q : Int), .ptr 4 1 0 0, .own (.cons (.int .i64) (.cons .str .nil)) 5, .sl true (.cons (.int .i64) (.cons .str .nil)) (perK ns ct.length m hs (q - 1)), .int .i64 (((perK ns ct.length m hs (q - 1)).length : Nat) : Int), .int .i64 (i : Int)] ∧ H = [.cells [.str ct, .str ns, .int .i64 b, .int .i64 l, .int .i64 d, .int .i64 m, .sl false (.int .i64) hs], .cells [.int .i64 b, .int .i64 l, .int .i64 d, .int .i64 m, .sl false (.int .i64) hs], .dead, .row true (.sl (.cons (.int .i64) (.cons .str .nil))) (perA ns ct.length m hs q), .cells [.int .i64 (mkN m (ct.length : Int) (nzL ns (Int.toNat (7 * (q : Int))) (Int.toNat ((((ct.length : Int) * (m - 1)) * ((m - 1) + 1)) / 2)))), .sl true (.sl .str) (mkC m (ct.length : Int) (nzL ns (Int.toNat (7 * (q : Int))) (Int.toNat ((((ct.length : Int) * (m - 1)) * ((m - 1) + 1)) / 2))))], .row true (.cons (.int .i64) (.cons .str .nil)) (((perK ns ct.length m hs (q - 1)).take i).map (upS (mkN m (ct.length : Int) (nzQ ns ct.length m q)) (mkC m (ct.length : Int) (nzQ ns ct.length m q))))], ⟨rfl, (perK ns ct.length m hs (q - 1)).length, 0, by omega, by omega, rfl, rfl⟩, ?_⟩
        rintro nM vs H ⟨i, hc2_0, rfl, rfl, rfl⟩
        have hpl := hK.len ns (q - 1)
        have hml : (((perK ns ct.length m hs (q - 1)).take i).map (upS (mkN m (ct.length : Int) (nzQ ns ct.length m q)) (mkC m (ct.length : Int) (nzQ ns ct.length m q)))).length = i := by rw [List.length_map, List.length_take]; omega
        refine ⟨fun h3 => ?_, fun h3 => ?_⟩
        · replace h3 : (i : Int) < (((perK ns ct.length m hs (q - 1)).length : Nat) : Int) := h3
          have hi : i < (perK ns ct.length m hs (q - 1)).length := by omega
          have hone := hK.one ns (q - 1) q (S40.getD_mem (0, [], ()) (perK ns ct.length m hs (q - 1)) i hi)
          refine ⟨⟨by show (0 : Int) ≤ (i : Int); omega, by show (i : Int) < ((perK ns ct.length m hs (q - 1)).length : Int); omega⟩, ⟨rfl, rfl, rfl, Nat.le_of_ble_eq_true rfl⟩, rfl, rfl, ⟨hmx.1, hmx.2⟩, rfl, ⟨by show ([rowL (mkN m (ct.length : Int) (nzL ns (Int.toNat (7 * (q : Int))) (Int.toNat ((((ct.length : Int) * (m - 1)) * ((m - 1) + 1)) / 2)))) (mkC m (ct.length : Int) (nzL ns (Int.toNat (7 * (q : Int))) (Int.toNat ((((ct.length : Int) * (m - 1)) * ((m - 1) + 1)) / 2)))) (((perK ns ct.length m hs (q - 1)).getD i (0, ([], ()))).1)] : List (List (List UInt8))).length ≤ 1048576; first | omega | assumption | (simp only [List.length_cons, List.length_nil, List.length_append, List.length_take, List.length_drop, List.length_set, List.length_replicate]; omega), (fun x hx => by rw [List.mem_singleton.1 hx]; exact hone.2.2)⟩, ⟨rfl, rfl, rfl, Nat.le_of_ble_eq_true rfl⟩, fun h4 => ?_, fun h4 => ?_⟩
          · replace h4 : ¬ ((rowE (mkN m (ct.length : Int) (nzL ns (Int.toNat (7 * (q : Int))) (Int.toNat ((((ct.length : Int) * (m - 1)) * ((m - 1) + 1)) / 2)))) (mkC m (ct.length : Int) (nzL ns (Int.toNat (7 * (q : Int))) (Int.toNat ((((ct.length : Int) * (m - 1)) * ((m - 1) + 1)) / 2)))) (((perK ns ct.length m hs (q - 1)).getD i (0, ([], ()))).1)) ≠ 0) := h4
            refine ⟨fun h5 => ?_, fun h5 => ?_⟩
            · replace h5 : (updE (((perK ns ct.length m hs (q - 1)).getD i (0, ([], ()))).1) ((((perK ns ct.length m hs (q - 1)).getD i (0, ([], ()))).2).1) ([rowL (mkN m (ct.length : Int) (nzL ns (Int.toNat (7 * (q : Int))) (Int.toNat ((((ct.length : Int) * (m - 1)) * ((m - 1) + 1)) / 2)))) (mkC m (ct.length : Int) (nzL ns (Int.toNat (7 * (q : Int))) (Int.toNat ((((ct.length : Int) * (m - 1)) * ((m - 1) + 1)) / 2)))) (((perK ns ct.length m hs (q - 1)).getD i (0, ([], ()))).1)] : List (List (List UInt8)))) ≠ 0 := h5
              exact (h5 hone.2.1).elim
            · replace h5 : ¬ ((updE (((perK ns ct.length m hs (q - 1)).getD i (0, ([], ()))).1) ((((perK ns ct.length m hs (q - 1)).getD i (0, ([], ()))).2).1) ([rowL (mkN m (ct.length : Int) (nzL ns (Int.toNat (7 * (q : Int))) (Int.toNat ((((ct.length : Int) * (m - 1)) * ((m - 1) + 1)) / 2)))) (mkC m (ct.length : Int) (nzL ns (Int.toNat (7 * (q : Int))) (Int.toNat ((((ct.length : Int) * (m - 1)) * ((m - 1) + 1)) / 2)))) (((perK ns ct.length m hs (q - 1)).getD i (0, ([], ()))).1)] : List (List (List UInt8)))) ≠ 0) := h5
              refine ⟨rfl, ⟨rfl, rfl⟩, by show (((perK ns ct.length m hs (q - 1)).take i).map (upS (mkN m (ct.length : Int) (nzQ ns ct.length m q)) (mkC m (ct.length : Int) (nzQ ns ct.length m q)))).length + ([(updH (((perK ns ct.length m hs (q - 1)).getD i (0, ([], ()))).1) ((((perK ns ct.length m hs (q - 1)).getD i (0, ([], ()))).2).1) ([rowL (mkN m (ct.length : Int) (nzL ns (Int.toNat (7 * (q : Int))) (Int.toNat ((((ct.length : Int) * (m - 1)) * ((m - 1) + 1)) / 2)))) (mkC m (ct.length : Int) (nzL ns (Int.toNat (7 * (q : Int))) (Int.toNat ((((ct.length : Int) * (m - 1)) * ((m - 1) + 1)) / 2)))) (((perK ns ct.length m hs (q - 1)).getD i (0, ([], ()))).1)] : List (List (List UInt8))), updS (((perK ns ct.length m hs (q - 1)).getD i (0, ([], ()))).1) ((((perK ns ct.length m hs (q - 1)).getD i (0, ([], ()))).2).1) ([rowL (mkN m (ct.length : Int) (nzL ns (Int.toNat (7 * (q : Int))) (Int.toNat ((((ct.length : Int) * (m - 1)) * ((m - 1) + 1)) / 2)))) (mkC m (ct.length : Int) (nzL ns (Int.toNat (7 * (q : Int))) (Int.toNat ((((ct.length : Int) * (m - 1)) * ((m - 1) + 1)) / 2)))) (((perK ns ct.length m hs (q - 1)).getD i (0, ([], ()))).1)] : List (List (List UInt8))), ())] : List (Int × (List UInt8 × Unit))).length ≤ 1000000000; simp only [List.length_cons, List.length_nil]; omega, ⟨by show (-9223372036854775808 : Int) ≤ ((i : Int) + 1); omega, by show ((i : Int) + 1) ≤ (9223372036854775807 : Int); omega⟩, ?_⟩
              exact ⟨rfl, (perK ns ct.length m hs (q - 1)).length - (i + 1), by omega, i + 1, by omega, rfl, rfl, by rw [map_take_snoc (0, [], ()) _ _ i hi]; rfl⟩
          · replace h4 : (rowE (mkN m (ct.length : Int) (nzL ns (Int.toNat (7 * (q : Int))) (Int.toNat ((((ct.length : Int) * (m - 1)) * ((m - 1) + 1)) / 2)))) (mkC m (ct.length : Int) (nzL ns (Int.toNat (7 * (q : Int))) (Int.toNat ((((ct.length : Int) * (m - 1)) * ((m - 1) + 1)) / 2)))) (((perK ns ct.length m hs (q - 1)).getD i (0, ([], ()))).1)) ≠ 0 := h4
            exact (h4 hone.1).elim
        · replace h3 : ¬ ((i : Int) < (((perK ns ct.length m hs (q - 1)).length : Nat) : Int)) := h3
          have hnx : ((perK ns ct.length m hs (q - 1)).take i).map (upS (mkN m (ct.length : Int) (nzQ ns ct.length m q)) (mkC m (ct.length : Int) (nzQ ns ct.length m q))) = (perK ns ct.length m hs q) := by rw [List.take_of_length_le (by omega)]; exact (perK_next hc1_0).symm
          have hal := perA_len ns ct.length m hs q
          refine ⟨⟨rfl, rfl⟩, by show (perA ns ct.length m hs q).length + ([((perK ns ct.length m hs (q - 1)).take i).map (upS (mkN m (ct.length : Int) (nzQ ns ct.length m q)) (mkC m (ct.length : Int) (nzQ ns ct.length m q)))] : List (List (Int × (List UInt8 × Unit)))).length ≤ 1000000000; simp only [List.length_cons, List.length_nil]; omega, ⟨by show (-9223372036854775808 : Int) ≤ ((q : Int) + 1); omega, by show ((q : Int) + 1) ≤ (9223372036854775807 : Int); omega⟩, ?_⟩
          exact ⟨rfl, (cntL b l d).toNat - (q + 1), by omega, q + 1, by omega, by omega, rfl, by rw [hnx]; rfl, by rw [hnx, perA_snoc]; rfl⟩
    · replace h1 : ¬ ((q : Int) < (if chkL b l d m hs = 0 then cntL b l d else 0)) := h1
      rw [if_pos hp0] at h1
      rw [show (cntL b l d).toNat = q by omega]
      exact ⟨rfl, rfl, congrArg (fun p => V.tup [_, _, .b p]) (propext ⟨fun _ => trivial, fun _ => rfl⟩), rfl⟩
def CPrd : List (Nat × Con) := (8, pureC [.v (.cons .str (.cons .str (.cons (.cons (.int .i64) (.cons (.int .i64) (.cons (.int .i64) (.cons (.int .i64) (.cons (.sl (.int .i64)) .nil))))) .nil)))] sPrd) :: CNoi
theorem kPrd : Known Tryd.prog (En CPrd tys G6 QAt) := Known.frz0 <| (kNoi.frz [1000002]).add Tryd.func8 Tryd.call8 [.o (.sl (.cons (.int .i64) (.cons .str .nil))), .k, .k] fun ds p v bs h hp => by
  unfold sPrd at h
  split at h <;> simp only [Option.some.injEq, Prod.mk.injEq, reduceCtorEq] at h
  obtain ⟨rfl, rfl, rfl⟩ := h
  exact bPrd _ _ _ _ _ _ _ hp.1 hp.2.1 hp.2.2.1 hp.2.2.2.1 hp.2.2.2.2.1 hp.2.2.2.2.2.1 hp.2.2.2.2.2.2
end Go.Proofs.YtogipicegdbhdaaDoor.S40c

namespace Go.Proofs.YtogipicegdbhdaaDoor.S40c
open Go Go.Proofs.YtogipicegdbhdaaDoor.Vc Go.Proofs
set_option maxRecDepth 100000
set_option linter.unusedVariables false
open Go.Proofs.YtogipicegdbhdaaDoor.S40
def sFew2 : List V → Option (Prop × V × List Blk)
  | [.agg [.str ct, .str ns, .int .i64 b, .int .i64 l, .int .i64 d, .int .i64 m, .sl false (.int .i64) hs]] => some (hs.length ≤ 1048576, .b (fewK ct b l d m hs), [])
  | _ => none
set_option maxHeartbeats 2000000 in
theorem bFew2 (ct : List UInt8) (ns : List UInt8) (b : Int) (l : Int) (d : Int) (m : Int) (hs : List Int) (hp0 : hs.length ≤ 1048576) : bodyP (En CPrd tys G6 QAt) Tryd.f7 [.k] [.agg [.str ct, .str ns, .int .i64 b, .int .i64 l, .int .i64 d, .int .i64 m, .sl false (.int .i64) hs]] (.b (fewK ct b l d m hs)) [] := by
  refine ⟨⟨rfl, rfl, rfl, Nat.le_of_ble_eq_true rfl⟩, fun h0 => ?_, fun h0 => ?_⟩
  · replace h0 : 1 ≤ (ct.length : Int) := h0
    refine ⟨fun h1 => ?_, fun h1 => ?_⟩
    · replace h1 : (ct.length : Int) ≤ 6 := h1
      refine ⟨fun h2 => ?_, fun h2 => ?_⟩
      · replace h2 : (hs.length : Int) ≤ 6 := h2
        refine ⟨fun h3 => ?_, fun h3 => ?_⟩
        · replace h3 : 2 ≤ m := h3
          refine ⟨rfl, rfl, rfl, rfl, by show hs.length ≤ 2000000; first | omega | assumption, fun h4 => ?_, fun h4 => ?_⟩
          · replace h4 : (chkL b l d m hs) = 0 := h4
            refine ⟨rfl, rfl, rfl, rfl, by show hs.length ≤ 2000000; first | omega | assumption, fun h5 => ?_, fun h5 => ?_⟩
            · replace h5 : (if chkL b l d m hs = 0 then cntL b l d else 0) ≤ 4 := h5
              refine ⟨rfl, rfl, rfl, rfl, by show hs.length ≤ 2000000; first | omega | assumption, ?_⟩
              exact ⟨rfl, rfl, congrArg V.b (propext (by unfold fewK; (try dsimp only at *); constructor <;> intro g <;> first | rfl | omega | exact Bool.noConfusion g | (exfalso; omega))), rfl⟩
            · replace h5 : ¬ ((if chkL b l d m hs = 0 then cntL b l d else 0) ≤ 4) := h5
              exact ⟨rfl, rfl, congrArg V.b (propext (by unfold fewK; (try dsimp only at *); constructor <;> intro g <;> first | rfl | omega | exact Bool.noConfusion g | (exfalso; omega))), rfl⟩
          · replace h4 : ¬ ((chkL b l d m hs) = 0) := h4
            exact ⟨rfl, rfl, congrArg V.b (propext (by unfold fewK; (try dsimp only at *); constructor <;> intro g <;> first | rfl | omega | exact Bool.noConfusion g | (exfalso; omega))), rfl⟩
        · replace h3 : ¬ (2 ≤ m) := h3
          exact ⟨rfl, rfl, congrArg V.b (propext (by unfold fewK; (try dsimp only at *); constructor <;> intro g <;> first | rfl | omega | exact Bool.noConfusion g | (exfalso; omega))), rfl⟩
      · replace h2 : ¬ ((hs.length : Int) ≤ 6) := h2
        exact ⟨rfl, rfl, congrArg V.b (propext (by unfold fewK; (try dsimp only at *); constructor <;> intro g <;> first | rfl | omega | exact Bool.noConfusion g | (exfalso; omega))), rfl⟩
    · replace h1 : ¬ ((ct.length : Int) ≤ 6) := h1
      exact ⟨rfl, rfl, congrArg V.b (propext (by unfold fewK; (try dsimp only at *); constructor <;> intro g <;> first | rfl | omega | exact Bool.noConfusion g | (exfalso; omega))), rfl⟩
  · replace h0 : ¬ (1 ≤ (ct.length : Int)) := h0
    exact ⟨rfl, rfl, congrArg V.b (propext (by unfold fewK; (try dsimp only at *); constructor <;> intro g <;> first | rfl | omega | exact Bool.noConfusion g | (exfalso; omega))), rfl⟩
def CFew2 : List (Nat × Con) := (7, pureC [.v (.cons .str (.cons .str (.cons (.cons (.int .i64) (.cons (.int .i64) (.cons (.int .i64) (.cons (.int .i64) (.cons (.sl (.int .i64)) .nil))))) .nil)))] sFew2) :: CPrd
theorem kFew2 : Known Tryd.prog (En CFew2 tys G6 QAt) := kPrd.add Tryd.func7 Tryd.call7 [.k] fun ds p v bs h hp => by
  unfold sFew2 at h
  split at h <;> simp only [Option.some.injEq, Prod.mk.injEq, reduceCtorEq] at h
  obtain ⟨rfl, rfl, rfl⟩ := h
  exact bFew2 _ _ _ _ _ _ _ hp
end Go.Proofs.YtogipicegdbhdaaDoor.S40c

namespace Go.Proofs.YtogipicegdbhdaaDoor.S40c
open Go Go.Proofs.YtogipicegdbhdaaDoor.Vc Go.Proofs Go.Proofs.YtogipicegdbhdaaDoor.S40
set_option maxRecDepth 100000

/-! ### the shares that are seen -/
def vwB (z : Int) (s : Int × List UInt8 × Unit) : Bool := decide (z / 2 ^ s.1.toNat % 2 = 1)
def vwK (z : Int) (l : List (Int × List UInt8 × Unit)) (k : Nat) : List (Int × List UInt8 × Unit) := (l.take k).filter (vwB z)
theorem vw_sub (z : Int) (l : List (Int × List UInt8 × Unit)) (k : Nat) : (vwK z l k).Sublist l := List.filter_sublist.trans (List.take_sublist _ _)
theorem vw_len (z : Int) (l : List (Int × List UInt8 × Unit)) (k : Nat) : (vwK z l k).length ≤ l.length := (vw_sub z l k).length_le
theorem vw_yes {z : Int} {l : List (Int × List UInt8 × Unit)} {k : Nat} (hk : k < l.length) (h : z / 2 ^ (l.getD k (0, [], ())).1.toNat % 2 = 1) : vwK z l (k + 1) = vwK z l k ++ [l.getD k (0, [], ())] := by
  unfold vwK
  rw [takeD (0, [], ()) l k hk, List.filter_append]
  congr 1
  exact List.filter_cons_of_pos (decide_eq_true h)
theorem vw_no {z : Int} {l : List (Int × List UInt8 × Unit)} {k : Nat} (hk : k < l.length) (h : ¬ z / 2 ^ (l.getD k (0, [], ())).1.toNat % 2 = 1) : vwK z l (k + 1) = vwK z l k := by
  unfold vwK
  rw [takeD (0, [], ()) l k hk, List.filter_append, show List.filter (vwB z) [l.getD k (0, [], ())] = [] from List.filter_cons_of_neg (by unfold vwB; rw [decide_eq_true_eq]; exact h), List.append_nil]
theorem setF2_bit (f : Nat → Bool) (h : Nat) : ∀ k, (setF2 f k).testBit h = (decide (h < k) && f h)
  | 0 => by simp [setF2]
  | k + 1 => by
    have ih := setF2_bit f h k
    rw [setF2]
    by_cases g : f k = true
    · rw [if_pos g, ← setF2_or, Nat.testBit_or, ih, Nat.testBit_two_pow]
      by_cases e : k = h
      · subst e; simp [g]
      · have : decide (h < k + 1) = decide (h < k) := by apply decide_eq_decide.2; omega
        rw [this, decide_eq_false e, Bool.or_false]
    · rw [if_neg g, Nat.add_zero, ih]
      by_cases e : h = k
      · subst e; simp [g]
      · have : decide (h < k + 1) = decide (h < k) := by apply decide_eq_decide.2; omega
        rw [this]
theorem nat_bit (x h : Nat) : ((x : Int) / 2 ^ h % 2 = 1) ↔ x.testBit h = true := by
  rw [Nat.testBit_eq_decide_div_mod_eq, decide_eq_true_eq]
  constructor
  · intro g
    have : ((x / 2 ^ h % 2 : Nat) : Int) = 1 := by rw [Int.natCast_emod, Int.natCast_ediv, Int.natCast_pow]; exact g
    omega
  · intro g
    have : ((x / 2 ^ h % 2 : Nat) : Int) = 1 := by rw [g]; rfl
    rwa [Int.natCast_emod, Int.natCast_ediv, Int.natCast_pow] at this
theorem cnt_range (f : Nat → Bool) : ∀ k, cntF f k = ((List.range k).filter f).length
  | 0 => rfl
  | k + 1 => by
    rw [cntF, cnt_range f k, List.range_succ, List.filter_append, List.length_append]
    congr 1
    by_cases g : f k = true
    · rw [if_pos g, List.filter_cons_of_pos g]; rfl
    · rw [if_neg g, List.filter_cons_of_neg g]; rfl
theorem cnt_hs {hs : List Int} (h1 : ∀ x ∈ hs, knw x) (h2 : hs.Pairwise (· < ·)) (p : Nat → Bool) : (hs.filter fun x => p x.toNat).length = cntF (fun h => hs.contains (h : Int) && p h) 12 := by
  have e : ∀ L : List Nat, L.length = (L.map fun h : Nat => (h : Int)).length := fun L => (List.length_map ..).symm
  rw [cnt_range, e]
  apply List.Perm.length_eq
  refine (List.perm_ext_iff_of_nodup ?_ ?_).2 fun x => ?_
  · exact List.Pairwise.filter _ (h2.imp fun h => by omega)
  · exact List.Pairwise.map _ (fun a b (h : a ≠ b) => by omega) (List.Pairwise.filter _ List.nodup_range)
  · rw [List.mem_filter, List.mem_map]
    constructor
    · rintro ⟨hx, hp⟩
      obtain ⟨k1, k2⟩ := h1 x hx
      refine ⟨x.toNat, List.mem_filter.2 ⟨List.mem_range.2 (by omega), ?_⟩, by omega⟩
      rw [Int.toNat_of_nonneg k1, hp, Bool.and_true]
      simpa using hx
    · rintro ⟨h, hm, rfl⟩
      obtain ⟨_, hm2⟩ := List.mem_filter.1 hm
      rw [Bool.and_eq_true] at hm2
      exact ⟨by simpa using hm2.1, by simpa using hm2.2⟩
/-- How many shares of a period are seen. -/
theorem vw_cnt {b l d m : Int} {hs : List Int} (hc : Cal b l d m hs) {bad : Int} (h0 : 0 ≤ bad) (caps : List Cp) (q : Nat) {sh : List (Int × List UInt8 × Unit)} (hm : sh.map (·.1) = hs) {k : Nat} (hk : sh.length ≤ k) :
    (vwK (((((setF2 (seenC b l d hs 0 caps q) 12 : Nat) : Int).toNat ||| bad.toNat : Nat)) : Int) sh k).length = cntF (seenC b l d hs bad caps q) 12 := by
  subst hm
  obtain ⟨k1, k2⟩ := ho_ok _ (-1) (by omega) hc.ho
  have k1' : ∀ x ∈ sh.map (·.1), knw x := fun x hx => (k1 x hx).2
  have key := cnt_hs k1' k2 fun h => bitB bad h || caps.any (capIn b l d q h)
  rw [show cntF (seenC b l d (sh.map (·.1)) bad caps q) 12 = _ from key.symm, List.filter_map, List.length_map, vwK, List.take_of_length_le hk]
  congr 1
  apply List.filter_congr
  intro s hs'
  have hsm : s.1 ∈ sh.map (·.1) := List.mem_map.2 ⟨s, hs', rfl⟩
  obtain ⟨g1, g2⟩ := k1' _ hsm
  rw [Bool.eq_iff_iff]
  unfold vwB
  rw [decide_eq_true_eq, nat_bit, Nat.testBit_or, Int.toNat_natCast, setF2_bit, decide_eq_true (by omega : s.1.toNat < 12), Bool.true_and]
  have e1 : bad.toNat.testBit s.1.toNat = bitB bad s.1.toNat := by
    rw [Bool.eq_iff_iff, ← nat_bit, Int.toNat_of_nonneg h0]
    unfold bitB
    rw [decide_eq_true_eq]
  have e2 : seenC b l d (sh.map (·.1)) 0 caps q s.1.toNat = caps.any (capIn b l d q s.1.toNat) := by
    unfold seenC
    have : bitB 0 s.1.toNat = false := decide_eq_false (by rw [Int.zero_ediv]; decide)
    rw [this, Bool.false_or, Int.toNat_of_nonneg g1, show (sh.map (·.1)).contains s.1 = true by simpa using hsm, Bool.true_and]
  rw [e1, e2, Bool.or_comm]
  rfl
theorem tel_is {b l d m : Int} {hs : List Int} {bad : Int} {caps : List Cp} (h : redL b l d m hs bad caps = 0) {q : Nat} (hq : (q : Int) < cntL b l d) : (q : Int) ∈ telL b l d m hs bad caps ↔ m ≤ (cntF (seenC b l d hs bad caps q) 12 : Int) := by
  rw [telL, if_pos h, telG, List.mem_map]
  constructor
  · rintro ⟨x, hx, e⟩
    have : x = q := Int.ofNat_inj.1 e
    subst this
    exact of_decide_eq_true (List.mem_filter.1 hx).2
  · intro g
    exact ⟨q, List.mem_filter.2 ⟨List.mem_range.2 (by omega), decide_eq_true g⟩, rfl⟩
theorem sen_is {b l d m : Int} {hs : List Int} {bad : Int} {caps : List Cp} (h : redL b l d m hs bad caps = 0) {q : Nat} (hq : (q : Int) < cntL b l d) : senE b l d m hs caps q = 0 ∧ senL b l d m hs caps q = ((setF2 (seenC b l d hs 0 caps q) 12 : Nat) : Int) := by
  obtain ⟨hc, h0, h1, h2, h3⟩ := red0 h
  have e1 := hc.chk
  have e2 := cap0' h2 h3
  have e3 := hc.ask (q := (q : Int)) (by omega) hq
  refine ⟨by unfold senE; rw [if_pos e1, if_pos e2, e3], ?_⟩
  unfold senL
  rw [if_pos ⟨e1, e2, e3⟩]; rfl
/-- What is named, and what is seen. -/
theorem named {b l d m : Int} {hs : List Int} {bad : Int} {caps : List Cp} (h : redL b l d m hs bad caps = 0) {q : Nat} (hq : (q : Int) < cntL b l d) {sh : List (Int × List UInt8 × Unit)} (hm : sh.map (·.1) = hs) {k : Nat} (hk : sh.length ≤ k) :
    (q : Int) ∈ telL b l d m hs bad caps ↔ m ≤ ((vwK ((((senL b l d m hs caps q).toNat ||| bad.toNat : Nat)) : Int) sh k).length : Int) := by
  obtain ⟨hc, h0, _⟩ := red0 h
  rw [tel_is h hq, (sen_is h hq).2, vw_cnt hc h0 caps q hm hk]

/-! ### lists of one number -/
def mnK (n k : Nat) : List Int := (List.range n).map fun i => if i < k then -1 else 0
theorem mn_len (n k : Nat) : (mnK n k).length = n := by simp [mnK]
theorem mn_zero (n : Nat) : mnK n 0 = List.replicate n 0 := by
  apply List.ext_getElem
  · simp [mnK]
  · intro i h1 h2; simp [mnK]
theorem mn_set {n k : Nat} (h : k < n) : (mnK n k).set k (-1) = mnK n (k + 1) := by
  apply List.ext_getElem
  · simp [mnK]
  · intro i h1 h2
    rw [List.getElem_set]
    simp only [mnK, List.getElem_map, List.getElem_range]
    by_cases e : k = i
    · subst e; simp
    · rw [if_neg e]
      by_cases g : i < k
      · rw [if_pos g, if_pos (by omega)]
      · rw [if_neg g, if_neg (by omega)]
theorem mn_all {n k : Nat} (h : n ≤ k) : ∀ x ∈ mnK n k, x = -1 := fun x hx => by
  obtain ⟨i, hi, rfl⟩ := List.mem_map.1 hx
  rw [if_pos (by have := List.mem_range.1 hi; omega)]
theorem nm_zero (q : Int) (l : List Int) : (q ∈ l.take 0) = (false = true) := propext ⟨fun h => by simp at h, fun h => Bool.noConfusion h⟩
theorem nm_old {q : Int} {l : List Int} {j : Nat} (hj : j < l.length) (h : q ∈ l.take j) : (true = true) = (q ∈ l.take (j + 1)) := propext ⟨fun _ => by rw [takeD 0 l j hj]; exact List.mem_append_left _ h, fun _ => rfl⟩
theorem nm_new {q : Int} {l : List Int} {j : Nat} (hj : j < l.length) (h : ¬ q ∈ l.take j) : (l.getD j 0 = q) = (q ∈ l.take (j + 1)) := propext ⟨fun e => by rw [takeD 0 l j hj, e]; simp, fun g => by
  rw [takeD 0 l j hj, List.mem_append] at g
  exact (List.mem_singleton.1 (g.resolve_left h)).symm⟩
/-! ### sums -/
theorem xor_back {a b : List UInt8} (h : a.length = b.length) : sumB (sumB a b) b = a := by
  refine ext_get (N := a.length) (by rw [sum_len, sum_len]; omega) rfl fun k hk => ?_
  rw [sum_get (by rw [sum_len]; omega) (by rw [sum_len]; omega), sum_get h hk, UInt8.xor_assoc, UInt8.xor_self, UInt8.xor_zero]
/-! ### the example -/
theorem ali_K : Kp 10 24 5 2 [0, 1, 2] 2 := ⟨chk0 (by decide), by decide, by decide, by decide⟩
theorem ali_len {k : Nat} (hk : k < 3) : ((perA [1, 2, 3, 4] 2 2 [0, 1, 2] (cntL 10 24 5).toNat).getD k []).length = 3 := by
  rw [perA_get (by rw [show (cntL 10 24 5).toNat = 3 from by decide]; exact hk)]
  exact ali_K.len [1, 2, 3, 4] k
theorem ali_join {k : Nat} (hk : k < 3) : joE (((perA [1, 2, 3, 4] 2 2 [0, 1, 2] (cntL 10 24 5).toNat).getD k []).drop 1) 2 = 0 ∧ joS (((perA [1, 2, 3, 4] 2 2 [0, 1, 2] (cntL 10 24 5).toNat).getD k []).drop 1) 2 0 = nzL [1, 2, 3, 4] 0 2 := by
  have hl := ali_len hk
  rw [perA_get (by rw [show (cntL 10 24 5).toNat = 3 from by decide]; exact hk)] at hl ⊢
  exact (ali_K.ready [1, 2, 3, 4] k).join (List.drop_sublist _ _) (by rw [List.length_drop, hl]; decide)
end Go.Proofs.YtogipicegdbhdaaDoor.S40c

namespace Go.Proofs.YtogipicegdbhdaaDoor.S40c
open Go Go.Proofs.YtogipicegdbhdaaDoor.Vc Go.Proofs
set_option maxRecDepth 100000
set_option linter.unusedVariables false
open Go.Proofs.YtogipicegdbhdaaDoor.S40
def sAli : List V → Option (Prop × V × List Blk)
  | [] => some (True, .b True, [])
  | _ => none
set_option maxHeartbeats 4000000 in
theorem bAli   : bodyP (En CFew2 tys G6 QAt [1000002]) Tryd.f6 [.k] [] (.b True) [] := by
  have hpl : (perA ([1, 2, 3, 4]) ([104, 105]).length 2 ([0, 1, 2] : List Int) (cntL 10 24 5).toNat).length = 3 := by decide +kernel
  refine ⟨rfl, rfl, rfl, ⟨rfl, rfl, rfl, Nat.le_of_ble_eq_true rfl⟩, rfl, rfl, rfl, rfl, ⟨by show chkL 10 24 5 2 ([0, 1, 2] : List Int) = 0; decide +kernel, by show 2 ≤ 2; decide +kernel, by show ([0, 1, 2] : List Int).length ≤ 6; decide +kernel, by show 1 ≤ ([104, 105]).length; decide +kernel, by show ([104, 105]).length ≤ 6; decide +kernel, by show ([1, 2, 3, 4]).length ≤ 1048576; decide +kernel, by show cntL 10 24 5 ≤ 4; decide +kernel⟩, fun h0 => ?_, fun h0 => absurd h0 (show ¬ (¬ True) by exact fun h => h trivial)⟩
  refine ⟨fun h1 => ?_, fun h1 => absurd h1 (show ¬ ((((perA ([1, 2, 3, 4]) ([104, 105]).length 2 ([0, 1, 2] : List Int) (cntL 10 24 5).toNat).length : Nat) : Int) ≠ 3) by decide +kernel)⟩
  refine ⟨fun h2 => ?_, fun h2 => absurd h2 (show ¬ ((nzL ([1, 2, 3, 4]) 0 ([104, 105]).length) ≠ ([1, 2])) by decide +kernel)⟩
  refine ⟨⟨by show (0 : Int) ≤ 0; first | omega | decide +kernel, by show 0 < ((perA ([1, 2, 3, 4]) ([104, 105]).length 2 ([0, 1, 2] : List Int) (cntL 10 24 5).toNat).length : Int); first | omega | decide +kernel⟩, fun h3 => ?_, fun h3 => absurd h3 (show ¬ (((((perA ([1, 2, 3, 4]) ([104, 105]).length 2 ([0, 1, 2] : List Int) (cntL 10 24 5).toNat).getD 0 []).length : Nat) : Int) ≠ 3) by decide +kernel)⟩
  refine ⟨⟨by show (0 : Int) ≤ 0; first | omega | decide +kernel, by show 0 < ((perA ([1, 2, 3, 4]) ([104, 105]).length 2 ([0, 1, 2] : List Int) (cntL 10 24 5).toNat).length : Int); first | omega | decide +kernel⟩, ⟨by show (0 : Int) ≤ 0; first | omega | decide +kernel, by show 0 < (((perA ([1, 2, 3, 4]) ([104, 105]).length 2 ([0, 1, 2] : List Int) (cntL 10 24 5).toNat).getD 0 []).length : Int); first | omega | decide +kernel⟩, fun h4 => ?_, fun h4 => absurd h4 (show ¬ ((((((perA ([1, 2, 3, 4]) ([104, 105]).length 2 ([0, 1, 2] : List Int) (cntL 10 24 5).toNat).getD 0 []).getD 0 (0, ([], ()))).2).1) ≠ ([2, 6])) by decide +kernel)⟩
  refine ⟨⟨by show (0 : Int) ≤ 0; first | omega | decide +kernel, by show 0 < ((perA ([1, 2, 3, 4]) ([104, 105]).length 2 ([0, 1, 2] : List Int) (cntL 10 24 5).toNat).length : Int); first | omega | decide +kernel⟩, ⟨by show (0 : Int) ≤ 1; first | omega | decide +kernel, by show 1 < (((perA ([1, 2, 3, 4]) ([104, 105]).length 2 ([0, 1, 2] : List Int) (cntL 10 24 5).toNat).getD 0 []).length : Int); first | omega | decide +kernel⟩, fun h5 => ?_, fun h5 => absurd h5 (show ¬ ((((((perA ([1, 2, 3, 4]) ([104, 105]).length 2 ([0, 1, 2] : List Int) (cntL 10 24 5).toNat).getD 0 []).getD 1 (0, ([], ()))).2).1) ≠ ([7, 10])) by decide +kernel)⟩
  refine ⟨⟨by show (0 : Int) ≤ 0; first | omega | decide +kernel, by show 0 < ((perA ([1, 2, 3, 4]) ([104, 105]).length 2 ([0, 1, 2] : List Int) (cntL 10 24 5).toNat).length : Int); first | omega | decide +kernel⟩, ⟨by show (0 : Int) ≤ 2; first | omega | decide +kernel, by show 2 < (((perA ([1, 2, 3, 4]) ([104, 105]).length 2 ([0, 1, 2] : List Int) (cntL 10 24 5).toNat).getD 0 []).length : Int); first | omega | decide +kernel⟩, fun h6 => absurd h6 (show ¬ ((((((perA ([1, 2, 3, 4]) ([104, 105]).length 2 ([0, 1, 2] : List Int) (cntL 10 24 5).toNat).getD 0 []).getD 2 (0, ([], ()))).2).1) ≠ ([4, 14])) by decide +kernel), fun h6 => ?_⟩
  refine ⟨3, [(1, .k), (2, .k), (3, .k), (65, .k), (66, .k), (67, .k)], fun nM vs H => ∃ (k : Nat), k ≤ 3 ∧ nM = 3 - k ∧ vs = [.ptr 1 1 0 0, .own (.sl (.cons (.int .i64) (.cons .str .nil))) 2, .str (nzL ([1, 2, 3, 4]) 0 ([104, 105]).length), .own (.sl (.cons (.int .i64) (.cons .str .nil))) 2, .int .i64 (((perA ([1, 2, 3, 4]) ([104, 105]).length 2 ([0, 1, 2] : List Int) (cntL 10 24 5).toNat).length : Nat) : Int), .int .i64 (k : Int)] ∧ H = [.row true (.int .i64) ([0, 1, 2] : List Int), .cells [.int .i64 10, .int .i64 24, .int .i64 5, .int .i64 2, .own (.int .i64) 0], .row true (.sl (.cons (.int .i64) (.cons .str .nil))) (perA ([1, 2, 3, 4]) ([104, 105]).length 2 ([0, 1, 2] : List Int) (cntL 10 24 5).toNat)], ⟨rfl, 3, 0, by omega, by omega, rfl, rfl⟩, ?_⟩
  rintro nM vs H ⟨k, hc1_0, rfl, rfl, rfl⟩
  have hkl : k < 3 → ((perA ([1, 2, 3, 4]) ([104, 105]).length 2 ([0, 1, 2] : List Int) (cntL 10 24 5).toNat).getD k []).length = 3 := ali_len
  refine ⟨fun h7 => ?_, fun h7 => ?_⟩
  · replace h7 : (k : Int) < (((perA ([1, 2, 3, 4]) ([104, 105]).length 2 ([0, 1, 2] : List Int) (cntL 10 24 5).toNat).length : Nat) : Int) := h7
    have hkl := ali_len (k := k) (by omega)
    replace hkl : ((perA ([1, 2, 3, 4]) ([104, 105]).length 2 ([0, 1, 2] : List Int) (cntL 10 24 5).toNat).getD k []).length = 3 := hkl
    refine ⟨⟨by show (0 : Int) ≤ (k : Int); first | omega | decide +kernel, by show (k : Int) < ((perA ([1, 2, 3, 4]) ([104, 105]).length 2 ([0, 1, 2] : List Int) (cntL 10 24 5).toNat).length : Int); first | omega | decide +kernel⟩, ⟨by decide, by show (1 : Int) ≤ (((perA ([1, 2, 3, 4]) ([104, 105]).length 2 ([0, 1, 2] : List Int) (cntL 10 24 5).toNat).getD k []).length : Int); omega⟩, rfl, by show (((perA ([1, 2, 3, 4]) ([104, 105]).length 2 ([0, 1, 2] : List Int) (cntL 10 24 5).toNat).getD k []).drop 1).length ≤ 1048576; rw [List.length_drop]; omega, fun h8 => ?_, fun h8 => absurd h8 (show ¬ ((joE (((perA ([1, 2, 3, 4]) ([104, 105]).length 2 ([0, 1, 2] : List Int) (cntL 10 24 5).toNat).getD k []).drop 1) 2) ≠ 0) by exact fun h => h (ali_join (by omega)).1)⟩
    refine ⟨fun h9 => absurd h9 (show ¬ ((joS (((perA ([1, 2, 3, 4]) ([104, 105]).length 2 ([0, 1, 2] : List Int) (cntL 10 24 5).toNat).getD k []).drop 1) 2 0) ≠ (nzL ([1, 2, 3, 4]) 0 ([104, 105]).length)) by exact fun h => h (ali_join (by omega)).2), fun h9 => ?_⟩
    refine ⟨⟨by show (-9223372036854775808 : Int) ≤ ((k : Int) + 1); first | omega | decide +kernel, by show ((k : Int) + 1) ≤ (9223372036854775807 : Int); first | omega | decide +kernel⟩, ?_⟩
    exact ⟨rfl, 3 - (k + 1), by omega, k + 1, by omega, rfl, rfl, rfl⟩
  · replace h7 : ¬ ((k : Int) < (((perA ([1, 2, 3, 4]) ([104, 105]).length 2 ([0, 1, 2] : List Int) (cntL 10 24 5).toNat).length : Nat) : Int)) := h7
    refine ⟨rfl, rfl, rfl, rfl, rfl, rfl, rfl, rfl, rfl, ⟨by show ([0, 1, 2] : List Int).length ≤ 2000000; decide +kernel, by show ([(0, 12, ()), (1, 21, ())] : List (Int × (Int × Unit))).length ≤ 2000000; decide +kernel⟩, by kernel_rfl, fun h10 => ?_, fun h10 => absurd (show (redL 10 24 5 2 ([0, 1, 2] : List Int) 0 ([(0, 12, ()), (1, 21, ())] : List (Int × (Int × Unit)))) = 0 by decide +kernel) h10⟩
    refine ⟨fun h11 => ?_, fun h11 => absurd (show (redL 10 24 5 2 ([0, 1, 2] : List Int) 0 ([(0, 12, ()), (1, 21, ())] : List (Int × (Int × Unit)))) = 0 by decide +kernel) h11⟩
    refine ⟨fun h12 => ?_, fun h12 => absurd (show (redL 10 24 5 2 ([0, 1, 2] : List Int) 0 ([(0, 12, ()), (1, 21, ())] : List (Int × (Int × Unit)))) = 0 by decide +kernel) h12⟩
    refine ⟨fun h13 => ?_, fun h13 => absurd (show (redL 10 24 5 2 ([0, 1, 2] : List Int) 0 ([(0, 12, ()), (1, 21, ())] : List (Int × (Int × Unit)))) = 0 by decide +kernel) h13⟩
    refine ⟨fun h14 => ?_, fun h14 => absurd (show (((telL 10 24 5 2 ([0, 1, 2] : List Int) 0 ([(0, 12, ()), (1, 21, ())] : List (Int × (Int × Unit)))).length : Nat) : Int) = 1 by decide +kernel) h14⟩
    refine ⟨fun h15 => ?_, fun h15 => absurd (show (((telL 10 24 5 2 ([0, 1, 2] : List Int) 0 ([(0, 12, ()), (1, 21, ())] : List (Int × (Int × Unit)))).length : Nat) : Int) = 1 by decide +kernel) h15⟩
    refine ⟨⟨by show (0 : Int) ≤ 0; first | omega | decide +kernel, by show 0 < ((telL 10 24 5 2 ([0, 1, 2] : List Int) 0 ([(0, 12, ()), (1, 21, ())] : List (Int × (Int × Unit)))).length : Int); first | omega | decide +kernel⟩, fun h16 => ?_, fun h16 => absurd (show (((telL 10 24 5 2 ([0, 1, 2] : List Int) 0 ([(0, 12, ()), (1, 21, ())] : List (Int × (Int × Unit)))).length : Nat) : Int) = 1 by decide +kernel) h16⟩
    refine ⟨fun h17 => ?_, fun h17 => absurd (show (((telL 10 24 5 2 ([0, 1, 2] : List Int) 0 ([(0, 12, ()), (1, 21, ())] : List (Int × (Int × Unit)))).length : Nat) : Int) = 1 by decide +kernel) h17⟩
    refine ⟨fun h18 => ?_, fun h18 => absurd (show (((telL 10 24 5 2 ([0, 1, 2] : List Int) 0 ([(0, 12, ()), (1, 21, ())] : List (Int × (Int × Unit)))).length : Nat) : Int) = 1 by decide +kernel) h18⟩
    refine ⟨fun h19 => ?_, fun h19 => absurd (show ((telL 10 24 5 2 ([0, 1, 2] : List Int) 0 ([(0, 12, ()), (1, 21, ())] : List (Int × (Int × Unit)))).getD 0 0) = 1 by decide +kernel) h19⟩
    refine ⟨fun h20 => ?_, fun h20 => absurd (show ((telL 10 24 5 2 ([0, 1, 2] : List Int) 0 ([(0, 12, ()), (1, 21, ())] : List (Int × (Int × Unit)))).getD 0 0) = 1 by decide +kernel) h20⟩
    refine ⟨⟨by show (0 : Int) ≤ 1; first | omega | decide +kernel, by show 1 < ((perA ([1, 2, 3, 4]) ([104, 105]).length 2 ([0, 1, 2] : List Int) (cntL 10 24 5).toNat).length : Int); first | omega | decide +kernel⟩, fun h21 => ?_, fun h21 => absurd (show ((telL 10 24 5 2 ([0, 1, 2] : List Int) 0 ([(0, 12, ()), (1, 21, ())] : List (Int × (Int × Unit)))).getD 0 0) = 1 by decide +kernel) h21⟩
    refine ⟨fun h22 => ?_, fun h22 => absurd (show ((telL 10 24 5 2 ([0, 1, 2] : List Int) 0 ([(0, 12, ()), (1, 21, ())] : List (Int × (Int × Unit)))).getD 0 0) = 1 by decide +kernel) h22⟩
    refine ⟨⟨by show (0 : Int) ≤ 0; first | omega | decide +kernel, by show 0 < (((perA ([1, 2, 3, 4]) ([104, 105]).length 2 ([0, 1, 2] : List Int) (cntL 10 24 5).toNat).getD 1 []).length : Int); first | omega | decide +kernel⟩, fun h23 => ?_, fun h23 => absurd (show ((telL 10 24 5 2 ([0, 1, 2] : List Int) 0 ([(0, 12, ()), (1, 21, ())] : List (Int × (Int × Unit)))).getD 0 0) = 1 by decide +kernel) h23⟩
    refine ⟨fun h24 => ?_, fun h24 => absurd (show ((telL 10 24 5 2 ([0, 1, 2] : List Int) 0 ([(0, 12, ()), (1, 21, ())] : List (Int × (Int × Unit)))).getD 0 0) = 1 by decide +kernel) h24⟩
    refine ⟨fun h25 => ?_, fun h25 => absurd (show ((telL 10 24 5 2 ([0, 1, 2] : List Int) 0 ([(0, 12, ()), (1, 21, ())] : List (Int × (Int × Unit)))).getD 0 0) = 1 by decide +kernel) h25⟩
    refine ⟨⟨by show (0 : Int) ≤ 0; first | omega | decide +kernel, by show 0 < ((perA ([1, 2, 3, 4]) ([104, 105]).length 2 ([0, 1, 2] : List Int) (cntL 10 24 5).toNat).length : Int); first | omega | decide +kernel⟩, fun h26 => ?_, fun h26 => absurd (show ((telL 10 24 5 2 ([0, 1, 2] : List Int) 0 ([(0, 12, ()), (1, 21, ())] : List (Int × (Int × Unit)))).getD 0 0) = 1 by decide +kernel) h26⟩
    refine ⟨fun h27 => ?_, fun h27 => absurd (show ((telL 10 24 5 2 ([0, 1, 2] : List Int) 0 ([(0, 12, ()), (1, 21, ())] : List (Int × (Int × Unit)))).getD 0 0) = 1 by decide +kernel) h27⟩
    refine ⟨⟨by show (0 : Int) ≤ 0; first | omega | decide +kernel, by show 0 < (((perA ([1, 2, 3, 4]) ([104, 105]).length 2 ([0, 1, 2] : List Int) (cntL 10 24 5).toNat).getD 0 []).length : Int); first | omega | decide +kernel⟩, fun h28 => ?_, fun h28 => absurd (show ((telL 10 24 5 2 ([0, 1, 2] : List Int) 0 ([(0, 12, ()), (1, 21, ())] : List (Int × (Int × Unit)))).getD 0 0) = 1 by decide +kernel) h28⟩
    refine ⟨fun h29 => ?_, fun h29 => absurd (show ((telL 10 24 5 2 ([0, 1, 2] : List Int) 0 ([(0, 12, ()), (1, 21, ())] : List (Int × (Int × Unit)))).getD 0 0) = 1 by decide +kernel) h29⟩
    refine ⟨fun h30 => ?_, fun h30 => absurd (show ((telL 10 24 5 2 ([0, 1, 2] : List Int) 0 ([(0, 12, ()), (1, 21, ())] : List (Int × (Int × Unit)))).getD 0 0) = 1 by decide +kernel) h30⟩
    exact ⟨rfl, rfl, congrArg V.b (propext ⟨fun _ => trivial, fun _ => by decide +kernel⟩), rfl⟩
def CAli : List (Nat × Con) := (6, pureC [] sAli) :: CFew2
theorem kAli : Known Tryd.prog (En CAli tys G6 QAt) := Known.frz0 <| (kFew2.frz [1000002]).add Tryd.func6 Tryd.call6 [.k] fun ds p v bs h hp => by
  unfold sAli at h
  split at h <;> simp only [Option.some.injEq, Prod.mk.injEq, reduceCtorEq] at h
  obtain ⟨rfl, rfl, rfl⟩ := h
  exact bAli 
end Go.Proofs.YtogipicegdbhdaaDoor.S40c

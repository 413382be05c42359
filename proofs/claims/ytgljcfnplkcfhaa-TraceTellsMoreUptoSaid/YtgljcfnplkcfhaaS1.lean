/- Texts of this claim: S38.Qd, S38.A4, S38.Qe, S38.Qf, S38.A5. -/
import Derived.Test.YtgljcfnplkcfhaaS0
import Derived.Test.YtgljcfnplkcfhaaVc10
set_option linter.unusedVariables false
set_option linter.unusedSimpArgs false
namespace Go.Proofs.Ytgljcfnplkcfhaa.S38
open Go

/-- Reached by steps to what is not marked. -/
inductive WR (st : Int → List Int) (xs : List Bool) : Int → Nat → Prop
  | one {k : Int} {i : Nat} (h : (i : Int) ∈ st k) (hx : xs.getD i false = false) : WR st xs k i
  | step {k : Int} {j i : Nat} (h : (j : Int) ∈ st k) (hx : xs.getD j false = false) (hw : WR st xs (j : Int) i) : WR st xs k i
theorem WR.snoc {st : Int → List Int} {xs : List Bool} {k : Int} {i m : Nat} (h : WR st xs k i) (hm : (m : Int) ∈ st i) (hx : xs.getD m false = false) : WR st xs k m := by
  induction h with
  | one h h' => exact .step h h' (.one hm hx)
  | step h h' hw ih => exact .step h h' (ih hm)
theorem WR.mono {st : Int → List Int} {xs ys : List Bool} {k : Int} {i : Nat} (hs : ∀ i : Nat, ys.getD i false = false → xs.getD i false = false) (h : WR st ys k i) : WR st xs k i := by
  induction h with
  | one h h' => exact .one h (hs _ h')
  | step h h' hw ih => exact .step h (hs _ h') ih
theorem WR.un {st : Int → List Int} {xs : List Bool} {k : Int} {i : Nat} (h : WR st xs k i) : xs.getD i false = false := by
  induction h with
  | one h h' => exact h'
  | step h h' hw ih => exact ih

open Classical in
/-- What is marked then. -/
noncomputable def cloL (st : Int → List Int) (xs : List Bool) (k : Int) : List Bool := (List.range xs.length).map fun i => decide (xs.getD i false = true ∨ WR st xs k i)
theorem clo_len (st : Int → List Int) (xs : List Bool) (k : Int) : (cloL st xs k).length = xs.length := by simp [cloL]
theorem clo_get {st : Int → List Int} {xs : List Bool} {k : Int} {i : Nat} : (cloL st xs k).getD i false = true ↔ i < xs.length ∧ (xs.getD i false = true ∨ WR st xs k i) := by
  rw [List.getD_eq_getElem?_getD]
  unfold cloL
  rw [List.getElem?_map]
  by_cases hi : i < xs.length
  · rw [List.getElem?_range hi]
    simp [hi]
  · rw [List.getElem?_eq_none (by simp; omega)]
    simp [hi]
theorem getD_lt {xs : List Bool} {i : Nat} (h : xs.getD i false = true) : i < xs.length := by
  refine Classical.byContradiction fun g => ?_
  rw [List.getD_eq_getElem?_getD, List.getElem?_eq_none (by omega)] at h
  cases h
theorem getD_set {xs : List Bool} {i m : Nat} (hi : i < xs.length) : (xs.set i true).getD m false = true ↔ m = i ∨ xs.getD m false = true := by
  rw [List.getD_eq_getElem?_getD, List.getD_eq_getElem?_getD, List.getElem?_set]
  by_cases h : i = m
  · subst h; simp [hi]
  · rw [if_neg h]
    constructor
    · intro g; exact .inr g
    · rintro (g | g)
      · exact absurd g.symm h
      · exact g
theorem bF {b : Bool} (h : ¬ b = true) : b = false := by cases b <;> simp_all

structure InvT (st : Int → List Int) (k : Int) (xs ys : List Bool) (j : Nat) : Prop where
  len : ys.length = xs.length
  sub : ∀ i : Nat, xs.getD i false = true → ys.getD i false = true
  new : ∀ i : Nat, ys.getD i false = true → xs.getD i false = false → WR st xs k i
  pre : ∀ m : Nat, (m : Int) ∈ (st k).take j → ys.getD m false = true
  clo : ∀ i : Nat, ys.getD i false = true → xs.getD i false = false → ∀ m : Nat, (m : Int) ∈ st i → ys.getD m false = true

theorem InvT.start {st : Int → List Int} {k : Int} {xs : List Bool} : InvT st k xs xs 0 where
  len := rfl
  sub _ h := h
  new i h h' := by rw [h] at h'; cases h'
  pre m h := by simp at h
  clo i h h' := by rw [h] at h'; cases h'
theorem take_next {l : List Int} {j : Nat} (hj : j < l.length) {x : Int} : x ∈ l.take (j + 1) ↔ x ∈ l.take j ∨ x = l.getD j 0 := by
  rw [take_snoc 0 l j hj]; simp
theorem InvT.skip {st : Int → List Int} {k : Int} {xs ys : List Bool} {j : Nat} (h : InvT st k xs ys j) (hj : j < (st k).length) (hr : 0 ≤ (st k).getD j 0) (hy : ys.getD ((st k).getD j 0).toNat false = true) : InvT st k xs ys (j + 1) where
  len := h.len
  sub := h.sub
  new := h.new
  pre m hm := by
    rcases (take_next hj).1 hm with g | g
    · exact h.pre m g
    · have : ((st k).getD j 0).toNat = m := by omega
      rw [← this]; exact hy
  clo := h.clo
theorem InvT.go {st : Int → List Int} {k : Int} {xs ys : List Bool} {j : Nat} (hst : ∀ i : Nat, i < xs.length → ∀ m ∈ st i, 0 ≤ m ∧ m < xs.length) (h : InvT st k xs ys j) (hj : j < (st k).length) (hr : 0 ≤ (st k).getD j 0 ∧ (st k).getD j 0 < xs.length)
    (hy : ys.getD ((st k).getD j 0).toNat false = false) : InvT st k xs (cloL st (ys.set ((st k).getD j 0).toNat true) ((st k).getD j 0)) (j + 1) := by
  obtain ⟨i, hi⟩ : ∃ i : Nat, (st k).getD j 0 = (i : Int) := ⟨((st k).getD j 0).toNat, by omega⟩
  have himem : (i : Int) ∈ st k := by rw [← hi]; exact getD_mem 0 _ j hj
  rw [hi] at hy hr ⊢
  rw [Int.toNat_natCast] at hy ⊢
  have hil : i < ys.length := by rw [h.len]; omega
  have hxi : xs.getD i false = false := bF fun g => by rw [h.sub i g] at hy; cases hy
  have hz : ∀ m : Nat, (cloL st (ys.set i true) i).getD m false = true ↔ m < xs.length ∧ ((m = i ∨ ys.getD m false = true) ∨ WR st (ys.set i true) i m) := fun m => by
    rw [clo_get, getD_set hil, List.length_set, h.len]
  have hmono : ∀ m : Nat, (ys.set i true).getD m false = false → xs.getD m false = false := fun m g => bF fun g2 => by
    have := (getD_set hil).2 (.inr (h.sub m g2)); rw [g] at this; cases this
  have hclo : ∀ n m : Nat, n < xs.length → (m : Int) ∈ st n → (∀ hm : (ys.set i true).getD m false = false, WR st (ys.set i true) i m) → (cloL st (ys.set i true) i).getD m false = true := fun n m hn hm hw => by
    refine (hz m).2 ⟨by have := hst n hn m hm; omega, ?_⟩
    cases hc : (ys.set i true).getD m false with
    | true => exact .inl ((getD_set hil).1 hc)
    | false => exact .inr (hw hc)
  exact
    { len := by rw [clo_len, List.length_set, h.len]
      sub := fun m hm => (hz m).2 ⟨getD_lt hm, .inl (.inr (h.sub m hm))⟩
      new := fun m hm hx => by
        rcases ((hz m).1 hm).2 with (rfl | g) | g
        · exact .one himem hxi
        · exact h.new m g hx
        · exact .step himem hxi (g.mono hmono)
      pre := fun m hm => by
        rcases (take_next hj).1 hm with g | g
        · have := h.pre m g
          exact (hz m).2 ⟨by rw [← h.len]; exact getD_lt this, .inl (.inr this)⟩
        · obtain rfl : m = i := by omega
          exact (hz m).2 ⟨by omega, .inl (.inl rfl)⟩
      clo := fun n hn hx m hm => by
        obtain ⟨hnl, g⟩ := (hz n).1 hn
        rcases g with (rfl | g) | g
        · exact hclo n m hnl hm fun hc => .one hm hc
        · have := h.clo n g hx m hm
          exact (hz m).2 ⟨by rw [← h.len]; exact getD_lt this, .inl (.inr this)⟩
        · exact hclo n m hnl hm fun hc => g.snoc hm hc }
theorem bool_ext {xs ys : List Bool} (hl : xs.length = ys.length) (h : ∀ i : Nat, xs.getD i false = true ↔ ys.getD i false = true) : xs = ys := by
  refine List.ext_getElem hl fun i h1 h2 => ?_
  have := h i
  rw [List.getD_eq_getElem?_getD, List.getD_eq_getElem?_getD, List.getElem?_eq_getElem h1, List.getElem?_eq_getElem h2] at this
  exact Bool.eq_iff_iff.2 this
theorem InvT.fin {st : Int → List Int} {k : Int} {xs ys : List Bool} {j : Nat} (h : InvT st k xs ys j) (hj : (st k).length ≤ j) : ys = cloL st xs k := by
  refine bool_ext (by rw [clo_len, h.len]) fun m => ?_
  rw [clo_get]
  constructor
  · intro hm
    refine ⟨by rw [← h.len]; exact getD_lt hm, ?_⟩
    cases hx : xs.getD m false with
    | true => exact .inl rfl
    | false => exact .inr (h.new m hm hx)
  · rintro ⟨hml, g | g⟩
    · exact h.sub m g
    · have key : ∀ k' : Int, (∀ m : Nat, (m : Int) ∈ st k' → ys.getD m false = true) → WR st xs k' m → ys.getD m false = true := fun k' hk' hw => by
        clear g hml
        induction hw with
        | one h1 h2 => exact hk' _ h1
        | step h1 h2 _ ih => exact ih fun n hn => h.clo _ (hk' _ h1) h2 n hn
      exact key k (fun n hn => h.pre n (by rw [List.take_of_length_le hj]; exact hn)) g

def cntF : List Bool → Nat
  | [] => 0
  | b :: l => (bif b then 0 else 1) + cntF l
theorem cnt_le : ∀ {xs ys : List Bool}, ys.length = xs.length → (∀ i : Nat, xs.getD i false = true → ys.getD i false = true) → cntF ys ≤ cntF xs
  | [], [], _, _ => Nat.le_refl _
  | [], _ :: _, h, _ => by simp at h
  | _ :: _, [], h, _ => by simp at h
  | x :: xs, y :: ys, hl, h => by
    have h0 : x = true → y = true := h 0
    have ht := cnt_le (xs := xs) (ys := ys) (by simpa using hl) fun i hi => h (i + 1) hi
    unfold cntF
    cases x <;> cases y <;> simp_all <;> omega
theorem cnt_set : ∀ {ys : List Bool} {i : Nat}, i < ys.length → ys.getD i false = false → cntF (ys.set i true) < cntF ys
  | [], i, h, _ => by simp at h
  | y :: ys, 0, _, h => by
    have h : y = false := h
    subst h
    simp [cntF]
  | y :: ys, i + 1, hl, h => by
    have := cnt_set (ys := ys) (i := i) (by simpa using hl) h
    simp only [List.set_cons_succ, cntF]
    omega
theorem InvT.cnt {st : Int → List Int} {k : Int} {xs ys : List Bool} {j i : Nat} (h : InvT st k xs ys j) (hi : i < xs.length) (hy : ys.getD i false = false) : cntF (ys.set i true) < cntF xs :=
  Nat.lt_of_lt_of_le (cnt_set (by rw [h.len]; exact hi) hy) (cnt_le h.len h.sub)
theorem dset : @decide (true = true) (Classical.propDecidable _) = true := @decide_eq_true _ (Classical.propDecidable _) rfl

/-- The steps. -/
def stpA (l : List (Int × (Int × (Int × (List Int × (Int × (Int × (Int × (Int × (Int × (Int × Unit))))))))))) (k : Int) : List Int := (l.getD k.toNat d0).2.2.2.1.map (findL l)
def isB (l : List (Int × (Int × (Int × (List Int × (Int × (Int × (Int × (Int × (Int × (Int × Unit))))))))))) (k : Int) (i : Nat) : Bool := decide ((l.getD k.toNat d0).1 ∈ (l.getD i d0).2.2.2.1)
def stpB (l : List (Int × (Int × (Int × (List Int × (Int × (Int × (Int × (Int × (Int × (Int × Unit))))))))))) (k : Int) : List Int := ((List.range l.length).filter (isB l k)).map fun i : Nat => (i : Int)
def bTo (p : Nat → Bool) (n : Nat) : List Int := ((List.range n).filter p).map fun i : Nat => (i : Int)
theorem bTo_t {p : Nat → Bool} {n : Nat} (h : p n = true) : bTo p (n + 1) = bTo p n ++ [(n : Int)] := by simp [bTo, List.range_succ, List.filter_append, h]
theorem bTo_f {p : Nat → Bool} {n : Nat} (h : p n = false) : bTo p (n + 1) = bTo p n := by simp [bTo, List.range_succ, List.filter_append, h]
theorem bTo_len (p : Nat → Bool) (n : Nat) : (bTo p n).length ≤ n := by
  unfold bTo; rw [List.length_map]; exact Nat.le_trans (List.length_filter_le _ _) (by simp)
theorem map_snoc {α : Type} (d : α) (f : α → Int) (l : List α) (j : Nat) (hj : j < l.length) : (l.take (j + 1)).map f = (l.take j).map f ++ [f (l.getD j d)] := by rw [take_snoc d l j hj]; simp

/-- What a search is begun with. -/
def okT (st : Int → List Int) (l : List (Int × (Int × (Int × (List Int × (Int × (Int × (Int × (Int × (Int × (Int × Unit))))))))))) (k : Int) (xs : List Bool) : Prop :=
  (0 ≤ k ∧ k < l.length) ∧ l.length ≤ 400 ∧ xs.length = l.length ∧ (∀ a ∈ l, a.2.2.2.1.length ≤ 1048576) ∧ ∀ i : Nat, i < l.length → (st i).length ≤ 1048576 ∧ ∀ m ∈ st i, 0 ≤ m ∧ m < l.length
open Classical in
noncomputable def sTu : Nat → List (Int × (Int × (Int × (List Int × (Int × (Int × (Int × (Int × (Int × (Int × Unit)))))))))) → Int → List Bool → Option (Prop × List Bool) := fun g l k xs =>
  match g with
  | 102 => some (okT (stpA l) l k xs, cloL (stpA l) xs k)
  | 104 => some (okT (stpB l) l k xs, cloL (stpB l) xs k)
  | _ => none
/-- What is picked out. -/
def pickN (l : List (Int × (Int × (Int × (List Int × (Int × (Int × (Int × (Int × (Int × (Int × Unit))))))))))) (bs : List Bool) : Nat → List Int
  | 0 => []
  | n + 1 => if bs.getD n false = true then pickN l bs n ++ [(l.getD n d0).1] else pickN l bs n
theorem pick_len (l : List (Int × (Int × (Int × (List Int × (Int × (Int × (Int × (Int × (Int × (Int × Unit))))))))))) (bs : List Bool) : ∀ n, (pickN l bs n).length ≤ n
  | 0 => Nat.le_refl _
  | n + 1 => by
    unfold pickN
    have := pick_len l bs n
    split <;> simp <;> omega
noncomputable def closL (st : List (Int × (Int × (Int × (List Int × (Int × (Int × (Int × (Int × (Int × (Int × Unit)))))))))) → Int → List Int) (l : List (Int × (Int × (Int × (List Int × (Int × (Int × (Int × (Int × (Int × (Int × Unit))))))))))) (i : Int) : List Int :=
  if chkL l = 0 ∧ 0 ≤ findL l i then pickN l (cloL (st l) (List.replicate l.length false) (findL l i)) l.length else []
def closE (l : List (Int × (Int × (Int × (List Int × (Int × (Int × (Int × (Int × (Int × (Int × Unit))))))))))) (i : Int) : Int := if chkL l ≠ 0 then chkL l else if findL l i < 0 then 8 else 0
theorem findL_lt (l : List (Int × (Int × (Int × (List Int × (Int × (Int × (Int × (Int × (Int × (Int × Unit))))))))))) (i : Int) (h : 0 ≤ findL l i) : findL l i < l.length := by
  rcases ixP_or (fun a : (Int × (Int × (Int × (List Int × (Int × (Int × (Int × (Int × (Int × (Int × Unit)))))))))) => decide (a.1 = i)) l 0 with h1 | h1
  · unfold findL at h; omega
  · unfold findL; omega
theorem stpB_ok (l : List (Int × (Int × (Int × (List Int × (Int × (Int × (Int × (Int × (Int × (Int × Unit))))))))))) (k : Nat) : ∀ m ∈ stpB l k, 0 ≤ m ∧ m < l.length := fun m hm => by
  unfold stpB at hm
  obtain ⟨i, h1, rfl⟩ := List.mem_map.1 hm
  have := List.mem_range.1 (List.mem_filter.1 h1).1
  omega
theorem chk_ok {l : List (Int × (Int × (Int × (List Int × (Int × (Int × (Int × (Int × (Int × (Int × Unit))))))))))} (h : chkL l = 0) : l.length ≤ 400 ∧ ∀ k, k < l.length → oneE l k = 0 := by
  unfold chkL at h
  split at h
  · cases h
  · exact ⟨by omega, upE_zero.1 h⟩
theorem one_find {l : List (Int × (Int × (Int × (List Int × (Int × (Int × (Int × (Int × (Int × (Int × Unit))))))))))} {k : Nat} (h : oneE l k = 0) {i : Int} (hi : i ∈ (l.getD k d0).2.2.2.1) : 0 ≤ findL l i ∧ findL l i < k := by
  have hf := one_fmd h
  unfold oneE at h
  rw [if_neg (fun g => g hf)] at h
  split at h
  · cases h
  split at h
  · cases h
  · rename_i hn
    exact find_take fun g => hn ⟨i, hi, g⟩
theorem okA {l : List (Int × (Int × (Int × (List Int × (Int × (Int × (Int × (Int × (Int × (Int × Unit))))))))))} (hc : chkL l = 0) (hof : ∀ a ∈ l, a.2.2.2.1.length ≤ 1048576) {k : Int} (h0 : 0 ≤ k) (h1 : k < l.length) {xs : List Bool} (hx : xs.length = l.length) : okT (stpA l) l k xs := by
  obtain ⟨h4, ho⟩ := chk_ok hc
  refine ⟨⟨h0, h1⟩, h4, hx, hof, fun i hi => ⟨?_, fun m hm => ?_⟩⟩
  · unfold stpA; rw [List.length_map]; exact hof _ (getD_mem _ l _ (by omega))
  · unfold stpA at hm
    obtain ⟨j, hj, rfl⟩ := List.mem_map.1 hm
    have := one_find (ho i hi) hj
    omega
theorem okB {l : List (Int × (Int × (Int × (List Int × (Int × (Int × (Int × (Int × (Int × (Int × Unit))))))))))} (hc : chkL l = 0) (hof : ∀ a ∈ l, a.2.2.2.1.length ≤ 1048576) {k : Int} (h0 : 0 ≤ k) (h1 : k < l.length) {xs : List Bool} (hx : xs.length = l.length) : okT (stpB l) l k xs := by
  obtain ⟨h4, ho⟩ := chk_ok hc
  refine ⟨⟨h0, h1⟩, h4, hx, hof, fun i hi => ⟨?_, stpB_ok l i⟩⟩
  have := bTo_len (isB l i) l.length
  unfold bTo at this
  unfold stpB
  omega
end Go.Proofs.Ytgljcfnplkcfhaa.S38

namespace Go.Proofs.Ytgljcfnplkcfhaa.S38
open Go Go.Proofs.Ytgljcfnplkcfhaa.Vc Go.Proofs
set_option maxRecDepth 100000
set_option linter.unusedVariables false

def sIxE : List V → Option (Prop × V × List Blk)
  | [.sl false (.int .i64) s, .int .i64 x] => some (s.length ≤ 1048576, .int .i64 (ixP (fun y => decide (y = x)) s 0), [])
  | _ => none
set_option maxHeartbeats 1000000 in
theorem bIxE (s : List Int) (x : Int) (hp0 : s.length ≤ 1048576) : bodyP (En CChk tys [] []) Try.f123 [.k] [.sl false (.int .i64) s, .int .i64 x] (.int .i64 (ixP (fun y => decide (y = x)) s 0)) [] := by
 refine ⟨0, [(0, .k), (1, .k), (7, .k), (8, .k)], fun nM vs H => ∃ (j : Nat), j ≤ s.length ∧ ixP (fun y => decide (y = x)) (s.drop j) j = ixP (fun y => decide (y = x)) s 0 ∧ nM = s.length - j ∧ vs = [.sl false (.int .i64) s, .int .i64 x, .int .i64 (s.length : Int), .int .i64 (j : Int)] ∧ H = [], ⟨rfl, s.length, 0, by omega, rfl, by omega, rfl, rfl⟩, ?_⟩
 rintro nM vs H ⟨j, hc1_0, hc1_1, rfl, rfl, rfl⟩
 refine ⟨fun h0 => ?_, fun h0 => ?_⟩
 ·replace h0 : (j : Int) < (s.length : Int) := h0
  have hj : j < s.length := by omega
  rw [drop_one 0 s j hj, ixP] at hc1_1
  refine ⟨⟨by show (0 : Int) ≤ (j : Int); omega, by show (j : Int) < (s.length : Int); omega⟩, fun h1 => ?_, fun h1 => ?_⟩
  ·replace h1 : x = (s.getD j 0) := h1
   rw [if_pos (decide_eq_true h1.symm)] at hc1_1
   rw [← hc1_1]
   exact ⟨rfl, rfl, rfl, rfl⟩
  ·replace h1 : ¬ (x = (s.getD j 0)) := h1
   rw [if_neg (by simpa using fun e => h1 e.symm)] at hc1_1
   refine ⟨⟨by show (-9223372036854775808 : Int) ≤ ((j : Int) + 1); omega, by show ((j : Int) + 1) ≤ (9223372036854775807 : Int); omega⟩, ?_⟩
   exact ⟨rfl, s.length - (j + 1), by omega, j + 1, by omega, hc1_1, rfl, rfl, rfl⟩
 ·replace h0 : ¬ ((j : Int) < (s.length : Int)) := h0
  rw [List.drop_eq_nil_of_le (by omega), ixP] at hc1_1
  rw [← hc1_1]
  exact ⟨rfl, rfl, rfl, rfl⟩
def CIxE : List (Nat × Con) := (123, pureC [.v (.sl (.int .i64)), .v (.int .i64)] sIxE) :: CChk
theorem kIxE : Known Try.prog (En CIxE tys [] []) := kChk.add Try.func123 Try.call123 [.k] fun ds p v bs h hp => by
  unfold sIxE at h
  split at h <;> simp only [Option.some.injEq, Prod.mk.injEq, reduceCtorEq] at h
  obtain ⟨rfl, rfl, rfl⟩ := h
  exact bIxE _ _ hp
def sCts : List V → Option (Prop × V × List Blk)
  | [.sl false (.int .i64) s, .int .i64 x] => some (s.length ≤ 1048576, .b (x ∈ s), [])
  | _ => none
set_option maxHeartbeats 1000000 in
theorem bCts (s : List Int) (x : Int) (hp0 : s.length ≤ 1048576) : bodyP (En CIxE tys [] []) Try.f88 [.k] [.sl false (.int .i64) s, .int .i64 x] (.b (x ∈ s)) [] := by
 refine ⟨rfl, by show s.length ≤ 1048576; first | omega | assumption, ?_⟩
 exact ⟨rfl, rfl, congrArg V.b (propext ⟨fun h => by obtain ⟨i, hi, rfl⟩ := (ixP_is (fun y => decide (y = x)) s fun i => decide_eq_true_iff).1 h; exact hi, fun h => (ixP_is (fun y => decide (y = x)) s fun i => decide_eq_true_iff).2 ⟨x, h, rfl⟩⟩), rfl⟩
def CCts : List (Nat × Con) := (88, pureC [.v (.sl (.int .i64)), .v (.int .i64)] sCts) :: CIxE
theorem kCts : Known Try.prog (En CCts tys [] []) := kIxE.add Try.func88 Try.call88 [.k] fun ds p v bs h hp => by
  unfold sCts at h
  split at h <;> simp only [Option.some.injEq, Prod.mk.injEq, reduceCtorEq] at h
  obtain ⟨rfl, rfl, rfl⟩ := h
  exact bCts _ _ hp
def sAbS : List V → Option (Prop × V × List Blk)
  | [.int .i64 k, .rp false (.sl (.cons (.int .i64) (.cons (.int .i64) (.cons (.int .i64) (.cons (.sl (.int .i64)) (.cons (.int .i64) (.cons (.int .i64) (.cons (.int .i64) (.cons (.int .i64) (.cons (.int .i64) (.cons (.int .i64) .nil))))))))))) l 0] => some (0 ≤ k ∧ k < (l.length : Int) ∧ l.length ≤ 1048576 ∧ (∀ a ∈ l, a.2.2.2.1.length ≤ 1048576), .own (.int .i64) 0, [.row true (.int .i64) (stpA l k)])
  | _ => none
set_option maxHeartbeats 1000000 in
theorem bAbS (k : Int) (l : List (Int × (Int × (Int × (List Int × (Int × (Int × (Int × (Int × (Int × (Int × Unit))))))))))) (hp0 : 0 ≤ k) (hp1 : k < (l.length : Int)) (hp2 : l.length ≤ 1048576) (hp3 : (∀ a ∈ l, a.2.2.2.1.length ≤ 1048576)) : bodyP (En CCts tys [] []) Try.f102 [.o (.int .i64)] [.int .i64 k, .rp false (.sl (.cons (.int .i64) (.cons (.int .i64) (.cons (.int .i64) (.cons (.sl (.int .i64)) (.cons (.int .i64) (.cons (.int .i64) (.cons (.int .i64) (.cons (.int .i64) (.cons (.int .i64) (.cons (.int .i64) .nil))))))))))) l 0] (.own (.int .i64) 0) [.row true (.int .i64) (stpA l k)] := by
 have hof := hp3 _ (getD_mem d0 l k.toNat (by omega))
 refine ⟨⟨by show (0 : Int) ≤ k; omega, by show k < (l.length : Int); omega⟩, 0, [(1, .k), (4, .o (.int .i64)), (11, .k), (12, .k), (13, .k)], fun nM vs H => ∃ (j : Nat), j ≤ (l.getD k.toNat d0).2.2.2.1.length ∧ nM = (l.getD k.toNat d0).2.2.2.1.length - j ∧ vs = [.rp false (.sl (.cons (.int .i64) (.cons (.int .i64) (.cons (.int .i64) (.cons (.sl (.int .i64)) (.cons (.int .i64) (.cons (.int .i64) (.cons (.int .i64) (.cons (.int .i64) (.cons (.int .i64) (.cons (.int .i64) .nil))))))))))) l 0, .own (.int .i64) 0, .sl false (.int .i64) (l.getD k.toNat d0).2.2.2.1, .int .i64 (((l.getD k.toNat d0).2.2.2.1.length : Nat) : Int), .int .i64 (j : Int)] ∧ H = [.row true (.int .i64) (((l.getD k.toNat d0).2.2.2.1.take j).map (findL l))], ⟨rfl, (l.getD k.toNat d0).2.2.2.1.length, 0, by omega, by omega, rfl, rfl⟩, ?_⟩
 rintro nM vs H ⟨j, hc1_0, rfl, rfl, rfl⟩
 refine ⟨fun h0 => ?_, fun h0 => ?_⟩
 ·replace h0 : (j : Int) < (((l.getD k.toNat d0).2.2.2.1.length : Nat) : Int) := h0
  have hj : j < (l.getD k.toNat d0).2.2.2.1.length := by omega
  have hml : (((l.getD k.toNat d0).2.2.2.1.take j).map (findL l)).length ≤ 1048576 := by rw [List.length_map, List.length_take]; omega
  refine ⟨⟨by show (0 : Int) ≤ (j : Int); omega, by show (j : Int) < ((l.getD k.toNat d0).2.2.2.1.length : Int); omega⟩, rfl, by show l.length ≤ 1048576; first | omega | assumption, rfl, ⟨rfl, rfl⟩, by show (((l.getD k.toNat d0).2.2.2.1.take j).map (findL l)).length + ([findL l ((l.getD k.toNat d0).2.2.2.1.getD j 0)] : List Int).length ≤ 1000000000; simp only [List.length_cons, List.length_nil]; omega, ⟨by show (-9223372036854775808 : Int) ≤ ((j : Int) + 1); omega, by show ((j : Int) + 1) ≤ (9223372036854775807 : Int); omega⟩, ?_⟩
  exact ⟨rfl, (l.getD k.toNat d0).2.2.2.1.length - (j + 1), by omega, j + 1, by omega, rfl, rfl, by rw [map_snoc 0 _ _ j hj]; rfl⟩
 ·replace h0 : ¬ ((j : Int) < (((l.getD k.toNat d0).2.2.2.1.length : Nat) : Int)) := h0
  have e : ((l.getD k.toNat d0).2.2.2.1.take j).map (findL l) = stpA l k := by unfold stpA; rw [List.take_of_length_le (by omega)]
  rw [← e]
  exact ⟨rfl, rfl, rfl, rfl⟩
def CAbS : List (Nat × Con) := (102, pureC [.v (.int .i64), .ref (.sl (.cons (.int .i64) (.cons (.int .i64) (.cons (.int .i64) (.cons (.sl (.int .i64)) (.cons (.int .i64) (.cons (.int .i64) (.cons (.int .i64) (.cons (.int .i64) (.cons (.int .i64) (.cons (.int .i64) .nil)))))))))))] sAbS) :: CCts
theorem kAbS : Known Try.prog (En CAbS tys [] []) := kCts.add Try.func102 Try.call102 [.o (.int .i64)] fun ds p v bs h hp => by
  unfold sAbS at h
  split at h <;> simp only [Option.some.injEq, Prod.mk.injEq, reduceCtorEq] at h
  obtain ⟨rfl, rfl, rfl⟩ := h
  exact bAbS _ _ hp.1 hp.2.1 hp.2.2.1 hp.2.2.2
def sBeS : List V → Option (Prop × V × List Blk)
  | [.int .i64 k, .rp false (.sl (.cons (.int .i64) (.cons (.int .i64) (.cons (.int .i64) (.cons (.sl (.int .i64)) (.cons (.int .i64) (.cons (.int .i64) (.cons (.int .i64) (.cons (.int .i64) (.cons (.int .i64) (.cons (.int .i64) .nil))))))))))) l 0] => some (0 ≤ k ∧ k < (l.length : Int) ∧ l.length ≤ 1048576 ∧ (∀ a ∈ l, a.2.2.2.1.length ≤ 1048576), .own (.int .i64) 0, [.row true (.int .i64) (stpB l k)])
  | _ => none
set_option maxHeartbeats 1000000 in
theorem bBeS (k : Int) (l : List (Int × (Int × (Int × (List Int × (Int × (Int × (Int × (Int × (Int × (Int × Unit))))))))))) (hp0 : 0 ≤ k) (hp1 : k < (l.length : Int)) (hp2 : l.length ≤ 1048576) (hp3 : (∀ a ∈ l, a.2.2.2.1.length ≤ 1048576)) : bodyP (En CAbS tys [] []) Try.f104 [.o (.int .i64)] [.int .i64 k, .rp false (.sl (.cons (.int .i64) (.cons (.int .i64) (.cons (.int .i64) (.cons (.sl (.int .i64)) (.cons (.int .i64) (.cons (.int .i64) (.cons (.int .i64) (.cons (.int .i64) (.cons (.int .i64) (.cons (.int .i64) .nil))))))))))) l 0] (.own (.int .i64) 0) [.row true (.int .i64) (stpB l k)] := by
 refine ⟨0, [(0, .k), (1, .k), (4, .o (.int .i64)), (7, .k), (8, .k), (9, .k)], fun nM vs H => ∃ (i : Nat), i ≤ l.length ∧ nM = l.length - i ∧ vs = [.int .i64 k, .rp false (.sl (.cons (.int .i64) (.cons (.int .i64) (.cons (.int .i64) (.cons (.sl (.int .i64)) (.cons (.int .i64) (.cons (.int .i64) (.cons (.int .i64) (.cons (.int .i64) (.cons (.int .i64) (.cons (.int .i64) .nil))))))))))) l 0, .own (.int .i64) 0, .sl false (.cons (.int .i64) (.cons (.int .i64) (.cons (.int .i64) (.cons (.sl (.int .i64)) (.cons (.int .i64) (.cons (.int .i64) (.cons (.int .i64) (.cons (.int .i64) (.cons (.int .i64) (.cons (.int .i64) .nil)))))))))) l, .int .i64 (l.length : Int), .int .i64 (i : Int)] ∧ H = [.row true (.int .i64) (bTo (isB l k) i)], ⟨rfl, l.length, 0, by omega, by omega, rfl, rfl⟩, ?_⟩
 rintro nM vs H ⟨i, hc1_0, rfl, rfl, rfl⟩
 refine ⟨fun h0 => ?_, fun h0 => ?_⟩
 ·replace h0 : (i : Int) < (l.length : Int) := h0
  have hj : i < l.length := by omega
  have hof := hp3 _ (getD_mem d0 l i hj)
  have hml := bTo_len (isB l k) i
  refine ⟨⟨by show (0 : Int) ≤ (i : Int); omega, by show (i : Int) < (l.length : Int); omega⟩, ⟨rfl, rfl, rfl, Nat.le_of_ble_eq_true rfl⟩, by kernel_rfl, ⟨by show (0 : Int) ≤ k; omega, by show k < (l.length : Int); omega⟩, rfl, by show (l.getD i d0).2.2.2.1.length ≤ 1048576; first | omega | assumption, fun h1 => ?_, fun h1 => ?_⟩
  ·replace h1 : (l.getD k.toNat d0).1 ∈ (l.getD i d0).2.2.2.1 := h1
   refine ⟨rfl, ⟨rfl, rfl⟩, by show (bTo (isB l k) i).length + ([(i : Int)] : List Int).length ≤ 1000000000; simp only [List.length_cons, List.length_nil]; omega, ⟨by show (-9223372036854775808 : Int) ≤ ((i : Int) + 1); omega, by show ((i : Int) + 1) ≤ (9223372036854775807 : Int); omega⟩, ?_⟩
   exact ⟨rfl, l.length - (i + 1), by omega, i + 1, by omega, rfl, rfl, by rw [bTo_t (decide_eq_true h1)]; rfl⟩
  ·replace h1 : ¬ ((l.getD k.toNat d0).1 ∈ (l.getD i d0).2.2.2.1) := h1
   refine ⟨⟨by show (-9223372036854775808 : Int) ≤ ((i : Int) + 1); omega, by show ((i : Int) + 1) ≤ (9223372036854775807 : Int); omega⟩, ?_⟩
   exact ⟨rfl, l.length - (i + 1), by omega, i + 1, by omega, rfl, rfl, by rw [bTo_f (decide_eq_false h1)]; rfl⟩
 ·replace h0 : ¬ ((i : Int) < (l.length : Int)) := h0
  have e : bTo (isB l k) i = stpB l k := by rw [show i = l.length by omega]; rfl
  rw [← e]
  exact ⟨rfl, rfl, rfl, rfl⟩
def CBeS : List (Nat × Con) := (104, pureC [.v (.int .i64), .ref (.sl (.cons (.int .i64) (.cons (.int .i64) (.cons (.int .i64) (.cons (.sl (.int .i64)) (.cons (.int .i64) (.cons (.int .i64) (.cons (.int .i64) (.cons (.int .i64) (.cons (.int .i64) (.cons (.int .i64) .nil)))))))))))] sBeS) :: CAbS
theorem kBeS : Known Try.prog (En CBeS tys [] []) := kAbS.add Try.func104 Try.call104 [.o (.int .i64)] fun ds p v bs h hp => by
  unfold sBeS at h
  split at h <;> simp only [Option.some.injEq, Prod.mk.injEq, reduceCtorEq] at h
  obtain ⟨rfl, rfl, rfl⟩ := h
  exact bBeS _ _ hp.1 hp.2.1 hp.2.2.1 hp.2.2.2
set_option maxHeartbeats 1000000 in
theorem bTu_stpA (l : List (Int × (Int × (Int × (List Int × (Int × (Int × (Int × (Int × (Int × (Int × Unit))))))))))) (k : Int) (xs : List Bool) (hok : okT (stpA l) l k xs) (hne : 0 < xs.length) : body (En ((128, turnC 128 (.sl (.cons (.int .i64) (.cons (.int .i64) (.cons (.int .i64) (.cons (.sl (.int .i64)) (.cons (.int .i64) (.cons (.int .i64) (.cons (.int .i64) (.cons (.int .i64) (.cons (.int .i64) (.cons (.int .i64) .nil))))))))))) (recT cntF (cntF xs) sTu)) :: CBeS) tys [] [] [6000000]).inR Try.f128 [.int .i64 k, .ptr 0 1 0 0, .ptr 1 1 0 0, .ptr 2 1 0 0] (turnH 128 102 (.sl (.cons (.int .i64) (.cons (.int .i64) (.cons (.int .i64) (.cons (.sl (.int .i64)) (.cons (.int .i64) (.cons (.int .i64) (.cons (.int .i64) (.cons (.int .i64) (.cons (.int .i64) (.cons (.int .i64) .nil))))))))))) l xs) (fun v H => v = .tup [] ∧ ∃ L, H = turnH 128 102 (.sl (.cons (.int .i64) (.cons (.int .i64) (.cons (.int .i64) (.cons (.sl (.int .i64)) (.cons (.int .i64) (.cons (.int .i64) (.cons (.int .i64) (.cons (.int .i64) (.cons (.int .i64) (.cons (.int .i64) .nil))))))))))) l (cloL (stpA l) xs k) ++ L) := by
 have hkk : ((k.toNat : Nat) : Int) = k := by have := hok.1; omega
 have hk0 := hok.1
 have hxl := hok.2.2.1
 have hl4 := hok.2.1
 have hsl := (hok.2.2.2.2 k.toNat (by omega)).1
 rw [hkk] at hsl
 refine ⟨rfl, ⟨by show 0 ≤ k; omega, by show k < (l.length : Int); omega, by show l.length ≤ 1048576; omega, hok.2.2.2.1⟩, 5, [(2, .k), (3, .k), (9, .o (.int .i64)), (10, .k), (11, .k)], fun nM vs H => ∃ (j : Nat) (ys : List Bool), j ≤ (stpA l k).length ∧ InvT (stpA l) k xs ys j ∧ nM = (stpA l k).length - j ∧ vs = [.ptr 1 1 0 0, .ptr 2 1 0 0, .own (.int .i64) 5, .int .i64 (((stpA l k).length : Nat) : Int), .int .i64 (j : Int)] ∧ H = [.cells [.fn 102 [.rp false (.sl (.cons (.int .i64) (.cons (.int .i64) (.cons (.int .i64) (.cons (.sl (.int .i64)) (.cons (.int .i64) (.cons (.int .i64) (.cons (.int .i64) (.cons (.int .i64) (.cons (.int .i64) (.cons (.int .i64) .nil))))))))))) l 0]], .cells [.own .bool 3], .cells [.fn 128 [.ptr 0 1 0 0, .ptr 1 1 0 0, .ptr 2 1 0 0]], .row true .bool ys, .cells [.tup [], .ptr 0 1 0 0, .ptr 1 1 0 0, .ptr 2 1 0 0, .own .bool 3], .row true (.int .i64) (stpA l k)], ⟨rfl, (stpA l k).length, 0, xs, Nat.zero_le _, InvT.start, rfl, rfl, rfl⟩, ?_⟩
 rintro nM vs H ⟨j, ys, hc1_0, hc1_1, rfl, rfl, rfl⟩
 refine ⟨fun h0 => ?_, fun h0 => ?_⟩
 ·replace h0 : (j : Int) < (((stpA l k).length : Nat) : Int) := h0
  have hj : j < (stpA l k).length := by omega
  have hr := (hok.2.2.2.2 k.toNat (by omega)).2 _ (by rw [hkk]; exact getD_mem 0 _ j hj)
  have hyl := hc1_1.len
  refine ⟨⟨by show (0 : Int) ≤ (j : Int); omega, by show (j : Int) < ((stpA l k).length : Int); omega⟩, ⟨by show (0 : Int) ≤ ((stpA l k).getD j 0); omega, by show ((stpA l k).getD j 0) < (ys.length : Int); omega⟩, fun h1 => ?_, fun h1 => ?_⟩
  ·replace h1 : ¬ ((ys.getD (((stpA l k).getD j 0).toNat) false) = true) := h1
   have hyf : ys.getD ((stpA l k).getD j 0).toNat false = false := bF h1
   have hT1 : 0 < (ys.set ((stpA l k).getD j 0).toNat (@decide (true = true) (Classical.propDecidable _))).length := by rw [List.length_set]; omega
   have hT2 : (cloL (stpA l) (ys.set ((stpA l k).getD j 0).toNat (@decide (true = true) (Classical.propDecidable _))) ((stpA l k).getD j 0)).length = (ys.set ((stpA l k).getD j 0).toNat (@decide (true = true) (Classical.propDecidable _))).length := clo_len _ _ _
   have hT3 : okT (stpA l) l ((stpA l k).getD j 0) (ys.set ((stpA l k).getD j 0).toNat (@decide (true = true) (Classical.propDecidable _))) := ⟨hr, hok.2.1, by rw [List.length_set, hyl]; exact hok.2.2.1, hok.2.2.2⟩
   have hT4 : cntF (ys.set ((stpA l k).getD j 0).toNat (@decide (true = true) (Classical.propDecidable _))) < cntF xs := by rw [dset]; exact hc1_1.cnt (by omega) hyf
   refine ⟨⟨by show (0 : Int) ≤ ((stpA l k).getD j 0); omega, by show ((stpA l k).getD j 0) < (ys.length : Int); omega⟩, ⟨rfl, rfl⟩, ⟨rfl, rfl, rfl, rfl, by decide, hT1, hT2⟩, ⟨hT3, hT4⟩, ⟨by show (-9223372036854775808 : Int) ≤ ((j : Int) + 1); omega, by show ((j : Int) + 1) ≤ (9223372036854775807 : Int); omega⟩, ?_⟩
   exact ⟨rfl, (stpA l k).length - (j + 1), by omega, j + 1, _, by omega, by rw [dset]; exact hc1_1.go (by rw [hxl]; exact fun i hi => (hok.2.2.2.2 i hi).2) hj (by rw [hxl]; exact hr) hyf, rfl, rfl, rfl⟩
  ·replace h1 : ¬ (¬ ((ys.getD (((stpA l k).getD j 0).toNat) false) = true)) := h1
   have hyt : ys.getD ((stpA l k).getD j 0).toNat false = true := Classical.not_not.1 h1
   refine ⟨⟨by show (-9223372036854775808 : Int) ≤ ((j : Int) + 1); omega, by show ((j : Int) + 1) ≤ (9223372036854775807 : Int); omega⟩, ?_⟩
   exact ⟨rfl, (stpA l k).length - (j + 1), by omega, j + 1, _, by omega, hc1_1.skip hj hr.1 hyt, rfl, rfl, rfl⟩
 ·replace h0 : ¬ ((j : Int) < (((stpA l k).length : Nat) : Int)) := h0
  rw [← hc1_1.fin (by omega)]
  exact ⟨rfl, _, rfl⟩
set_option maxHeartbeats 1000000 in
theorem bTu_stpB (l : List (Int × (Int × (Int × (List Int × (Int × (Int × (Int × (Int × (Int × (Int × Unit))))))))))) (k : Int) (xs : List Bool) (hok : okT (stpB l) l k xs) (hne : 0 < xs.length) : body (En ((128, turnC 128 (.sl (.cons (.int .i64) (.cons (.int .i64) (.cons (.int .i64) (.cons (.sl (.int .i64)) (.cons (.int .i64) (.cons (.int .i64) (.cons (.int .i64) (.cons (.int .i64) (.cons (.int .i64) (.cons (.int .i64) .nil))))))))))) (recT cntF (cntF xs) sTu)) :: CBeS) tys [] [] [6000000]).inR Try.f128 [.int .i64 k, .ptr 0 1 0 0, .ptr 1 1 0 0, .ptr 2 1 0 0] (turnH 128 104 (.sl (.cons (.int .i64) (.cons (.int .i64) (.cons (.int .i64) (.cons (.sl (.int .i64)) (.cons (.int .i64) (.cons (.int .i64) (.cons (.int .i64) (.cons (.int .i64) (.cons (.int .i64) (.cons (.int .i64) .nil))))))))))) l xs) (fun v H => v = .tup [] ∧ ∃ L, H = turnH 128 104 (.sl (.cons (.int .i64) (.cons (.int .i64) (.cons (.int .i64) (.cons (.sl (.int .i64)) (.cons (.int .i64) (.cons (.int .i64) (.cons (.int .i64) (.cons (.int .i64) (.cons (.int .i64) (.cons (.int .i64) .nil))))))))))) l (cloL (stpB l) xs k) ++ L) := by
 have hkk : ((k.toNat : Nat) : Int) = k := by have := hok.1; omega
 have hk0 := hok.1
 have hxl := hok.2.2.1
 have hl4 := hok.2.1
 have hsl := (hok.2.2.2.2 k.toNat (by omega)).1
 rw [hkk] at hsl
 refine ⟨rfl, ⟨by show 0 ≤ k; omega, by show k < (l.length : Int); omega, by show l.length ≤ 1048576; omega, hok.2.2.2.1⟩, 5, [(2, .k), (3, .k), (9, .o (.int .i64)), (10, .k), (11, .k)], fun nM vs H => ∃ (j : Nat) (ys : List Bool), j ≤ (stpB l k).length ∧ InvT (stpB l) k xs ys j ∧ nM = (stpB l k).length - j ∧ vs = [.ptr 1 1 0 0, .ptr 2 1 0 0, .own (.int .i64) 5, .int .i64 (((stpB l k).length : Nat) : Int), .int .i64 (j : Int)] ∧ H = [.cells [.fn 104 [.rp false (.sl (.cons (.int .i64) (.cons (.int .i64) (.cons (.int .i64) (.cons (.sl (.int .i64)) (.cons (.int .i64) (.cons (.int .i64) (.cons (.int .i64) (.cons (.int .i64) (.cons (.int .i64) (.cons (.int .i64) .nil))))))))))) l 0]], .cells [.own .bool 3], .cells [.fn 128 [.ptr 0 1 0 0, .ptr 1 1 0 0, .ptr 2 1 0 0]], .row true .bool ys, .cells [.tup [], .ptr 0 1 0 0, .ptr 1 1 0 0, .ptr 2 1 0 0, .own .bool 3], .row true (.int .i64) (stpB l k)], ⟨rfl, (stpB l k).length, 0, xs, Nat.zero_le _, InvT.start, rfl, rfl, rfl⟩, ?_⟩
 rintro nM vs H ⟨j, ys, hc1_0, hc1_1, rfl, rfl, rfl⟩
 refine ⟨fun h0 => ?_, fun h0 => ?_⟩
 ·replace h0 : (j : Int) < (((stpB l k).length : Nat) : Int) := h0
  have hj : j < (stpB l k).length := by omega
  have hr := (hok.2.2.2.2 k.toNat (by omega)).2 _ (by rw [hkk]; exact getD_mem 0 _ j hj)
  have hyl := hc1_1.len
  refine ⟨⟨by show (0 : Int) ≤ (j : Int); omega, by show (j : Int) < ((stpB l k).length : Int); omega⟩, ⟨by show (0 : Int) ≤ ((stpB l k).getD j 0); omega, by show ((stpB l k).getD j 0) < (ys.length : Int); omega⟩, fun h1 => ?_, fun h1 => ?_⟩
  ·replace h1 : ¬ ((ys.getD (((stpB l k).getD j 0).toNat) false) = true) := h1
   have hyf : ys.getD ((stpB l k).getD j 0).toNat false = false := bF h1
   have hT1 : 0 < (ys.set ((stpB l k).getD j 0).toNat (@decide (true = true) (Classical.propDecidable _))).length := by rw [List.length_set]; omega
   have hT2 : (cloL (stpB l) (ys.set ((stpB l k).getD j 0).toNat (@decide (true = true) (Classical.propDecidable _))) ((stpB l k).getD j 0)).length = (ys.set ((stpB l k).getD j 0).toNat (@decide (true = true) (Classical.propDecidable _))).length := clo_len _ _ _
   have hT3 : okT (stpB l) l ((stpB l k).getD j 0) (ys.set ((stpB l k).getD j 0).toNat (@decide (true = true) (Classical.propDecidable _))) := ⟨hr, hok.2.1, by rw [List.length_set, hyl]; exact hok.2.2.1, hok.2.2.2⟩
   have hT4 : cntF (ys.set ((stpB l k).getD j 0).toNat (@decide (true = true) (Classical.propDecidable _))) < cntF xs := by rw [dset]; exact hc1_1.cnt (by omega) hyf
   refine ⟨⟨by show (0 : Int) ≤ ((stpB l k).getD j 0); omega, by show ((stpB l k).getD j 0) < (ys.length : Int); omega⟩, ⟨rfl, rfl⟩, ⟨rfl, rfl, rfl, rfl, by decide, hT1, hT2⟩, ⟨hT3, hT4⟩, ⟨by show (-9223372036854775808 : Int) ≤ ((j : Int) + 1); omega, by show ((j : Int) + 1) ≤ (9223372036854775807 : Int); omega⟩, ?_⟩
   exact ⟨rfl, (stpB l k).length - (j + 1), by omega, j + 1, _, by omega, by rw [dset]; exact hc1_1.go (by rw [hxl]; exact fun i hi => (hok.2.2.2.2 i hi).2) hj (by rw [hxl]; exact hr) hyf, rfl, rfl, rfl⟩
  ·replace h1 : ¬ (¬ ((ys.getD (((stpB l k).getD j 0).toNat) false) = true)) := h1
   have hyt : ys.getD ((stpB l k).getD j 0).toNat false = true := Classical.not_not.1 h1
   refine ⟨⟨by show (-9223372036854775808 : Int) ≤ ((j : Int) + 1); omega, by show ((j : Int) + 1) ≤ (9223372036854775807 : Int); omega⟩, ?_⟩
   exact ⟨rfl, (stpB l k).length - (j + 1), by omega, j + 1, _, by omega, hc1_1.skip hj hr.1 hyt, rfl, rfl, rfl⟩
 ·replace h0 : ¬ ((j : Int) < (((stpB l k).length : Nat) : Int)) := h0
  rw [← hc1_1.fin (by omega)]
  exact ⟨rfl, _, rfl⟩
def CTu : List (Nat × Con) := (128, turnC 128 (.sl (.cons (.int .i64) (.cons (.int .i64) (.cons (.int .i64) (.cons (.sl (.int .i64)) (.cons (.int .i64) (.cons (.int .i64) (.cons (.int .i64) (.cons (.int .i64) (.cons (.int .i64) (.cons (.int .i64) .nil))))))))))) sTu) :: CBeS
theorem kTu : Known Try.prog (En CTu tys [] [] [6000000]) := kBeS.addTurn Try.func128 Try.call128 (T := (.sl (.cons (.int .i64) (.cons (.int .i64) (.cons (.int .i64) (.cons (.sl (.int .i64)) (.cons (.int .i64) (.cons (.int .i64) (.cons (.int .i64) (.cons (.int .i64) (.cons (.int .i64) (.cons (.int .i64) .nil)))))))))))) cntF fun g x k xs p ys hs hp hgf hne hlen => by
  unfold sTu at hs
  split at hs <;> simp only [Option.some.injEq, Prod.mk.injEq, reduceCtorEq] at hs
  · obtain ⟨rfl, rfl⟩ := hs; exact bTu_stpA x k xs hp hne
  · obtain ⟨rfl, rfl⟩ := hs; exact bTu_stpB x k xs hp hne
end Go.Proofs.Ytgljcfnplkcfhaa.S38

namespace Go.Proofs.Ytgljcfnplkcfhaa.S38
open Go

theorem nat_dec {p : Prop} {b : Bool} (h : b = true ↔ p) : (¬ p) ↔ b = false := by cases b <;> simp_all
theorem chk_fmd {l : List (Int × (Int × (Int × (List Int × (Int × (Int × (Int × (Int × (Int × (Int × Unit))))))))))} (h : chkL l = 0) {a : (Int × (Int × (Int × (List Int × (Int × (Int × (Int × (Int × (Int × (Int × Unit))))))))))} (ha : a ∈ l) : fmdA a := by
  obtain ⟨k, hk, rfl⟩ := List.mem_iff_getElem.1 ha
  have := one_fmd ((chk_ok h).2 k hk)
  rw [List.getD_eq_getElem?_getD, List.getElem?_eq_getElem hk] at this
  exact this
theorem fmd_all {a : (Int × (Int × (Int × (List Int × (Int × (Int × (Int × (Int × (Int × (Int × Unit))))))))))} (h : fmdA a) : 1 ≤ a.1 ∧ a.1 ≤ 1099511627776 ∧ 1 ≤ a.2.1 ∧ a.2.1 ≤ 4 ∧ 0 ≤ a.2.2.1 ∧ a.2.2.1 ≤ 1048576 ∧ 0 ≤ a.2.2.2.2.1 ∧ a.2.2.2.2.1 ≤ 11 ∧ -1 ≤ a.2.2.2.2.2.1 ∧ a.2.2.2.2.2.1 ≤ 63 ∧ 0 ≤ a.2.2.2.2.2.2.1 ∧ a.2.2.2.2.2.2.1 ≤ 1000000 ∧ a.2.2.2.2.2.2.1 ≤ a.2.2.2.2.2.2.2.1 ∧ a.2.2.2.2.2.2.2.1 ≤ 1000001 ∧
    ((a.2.1 = 3 ∧ 0 ≤ a.2.2.2.2.2.2.2.2.1 ∧ a.2.2.2.2.2.2.2.2.1 ≤ 11 ∧ 0 ≤ a.2.2.2.2.2.2.2.2.2.1 ∧ a.2.2.2.2.2.2.2.2.2.1 ≤ 499) ∨ (a.2.1 ≠ 3 ∧ a.2.2.2.2.2.2.2.2.1 = -1 ∧ a.2.2.2.2.2.2.2.2.2.1 = 0)) := by
  unfold fmdA fmd at h
  exact h.2
/-- The artifacts of an object. -/
def fO (o : Int) (l : List (Int × (Int × (Int × (List Int × (Int × (Int × (Int × (Int × (Int × (Int × Unit))))))))))) : List (Int × (Int × (Int × (List Int × (Int × (Int × (Int × (Int × (Int × (Int × Unit)))))))))) := l.filter fun a => decide (a.2.2.1 = o)
def pT (t : Int) (a : (Int × (Int × (Int × (List Int × (Int × (Int × (Int × (Int × (Int × (Int × Unit))))))))))) : Bool := decide (a.2.2.2.2.2.2.1 ≤ t ∧ t < a.2.2.2.2.2.2.2.1)
def pE (a : (Int × (Int × (Int × (List Int × (Int × (Int × (Int × (Int × (Int × (Int × Unit))))))))))) : Bool := decide (a.2.2.2.2.2.2.1 < a.2.2.2.2.2.2.2.1)
def pL (x : Int) (a : (Int × (Int × (Int × (List Int × (Int × (Int × (Int × (Int × (Int × (Int × Unit))))))))))) : Bool := decide (a.2.1 ≠ 4 ∧ a.2.2.2.2.2.2.1 < a.2.2.2.2.2.2.2.1 ∧ x + 2 < a.2.2.2.2.2.2.2.1 - 1)
def idsF (p : (Int × (Int × (Int × (List Int × (Int × (Int × (Int × (Int × (Int × (Int × Unit)))))))))) → Bool) (l : List (Int × (Int × (Int × (List Int × (Int × (Int × (Int × (Int × (Int × (Int × Unit))))))))))) : List Int := (l.filter p).map fun a => a.1
def orF (p : (Int × (Int × (Int × (List Int × (Int × (Int × (Int × (Int × (Int × (Int × Unit)))))))))) → Bool) (l : List (Int × (Int × (Int × (List Int × (Int × (Int × (Int × (Int × (Int × (Int × Unit))))))))))) : Nat := (l.filter p).foldl (fun s a => s ||| (1 * 2 ^ a.2.2.2.2.1.toNat : Int).toNat) 0
theorem fil_t {p : (Int × (Int × (Int × (List Int × (Int × (Int × (Int × (Int × (Int × (Int × Unit)))))))))) → Bool} {l : List (Int × (Int × (Int × (List Int × (Int × (Int × (Int × (Int × (Int × (Int × Unit))))))))))} {n : Nat} (hn : n < l.length) (h : p (l.getD n d0) = true) : (l.take (n + 1)).filter p = (l.take n).filter p ++ [l.getD n d0] := by
  rw [take_snoc d0 l n hn, List.filter_append, List.filter_cons, if_pos h, List.filter_nil]
theorem fil_f {p : (Int × (Int × (Int × (List Int × (Int × (Int × (Int × (Int × (Int × (Int × Unit)))))))))) → Bool} {l : List (Int × (Int × (Int × (List Int × (Int × (Int × (Int × (Int × (Int × (Int × Unit))))))))))} {n : Nat} (hn : n < l.length) (h : p (l.getD n d0) = false) : (l.take (n + 1)).filter p = (l.take n).filter p := by
  rw [take_snoc d0 l n hn, List.filter_append, List.filter_cons, if_neg (by rw [h]; decide), List.filter_nil, List.append_nil]
theorem idsF_t {p : (Int × (Int × (Int × (List Int × (Int × (Int × (Int × (Int × (Int × (Int × Unit)))))))))) → Bool} {l : List (Int × (Int × (Int × (List Int × (Int × (Int × (Int × (Int × (Int × (Int × Unit))))))))))} {n : Nat} (hn : n < l.length) (h : p (l.getD n d0) = true) : idsF p (l.take (n + 1)) = idsF p (l.take n) ++ [(l.getD n d0).1] := by
  unfold idsF; rw [fil_t hn h, List.map_append]; rfl
theorem idsF_f {p : (Int × (Int × (Int × (List Int × (Int × (Int × (Int × (Int × (Int × (Int × Unit)))))))))) → Bool} {l : List (Int × (Int × (Int × (List Int × (Int × (Int × (Int × (Int × (Int × (Int × Unit))))))))))} {n : Nat} (hn : n < l.length) (h : p (l.getD n d0) = false) : idsF p (l.take (n + 1)) = idsF p (l.take n) := by
  unfold idsF; rw [fil_f hn h]
theorem orF_t {p : (Int × (Int × (Int × (List Int × (Int × (Int × (Int × (Int × (Int × (Int × Unit)))))))))) → Bool} {l : List (Int × (Int × (Int × (List Int × (Int × (Int × (Int × (Int × (Int × (Int × Unit))))))))))} {n : Nat} (hn : n < l.length) (h : p (l.getD n d0) = true) : orF p (l.take (n + 1)) = orF p (l.take n) ||| (1 * 2 ^ (l.getD n d0).2.2.2.2.1.toNat : Int).toNat := by
  unfold orF; rw [fil_t hn h, List.foldl_append]; rfl
theorem orF_f {p : (Int × (Int × (Int × (List Int × (Int × (Int × (Int × (Int × (Int × (Int × Unit)))))))))) → Bool} {l : List (Int × (Int × (Int × (List Int × (Int × (Int × (Int × (Int × (Int × (Int × Unit))))))))))} {n : Nat} (hn : n < l.length) (h : p (l.getD n d0) = false) : orF p (l.take (n + 1)) = orF p (l.take n) := by
  unfold orF; rw [fil_f hn h]
theorem idsF_len (p : (Int × (Int × (Int × (List Int × (Int × (Int × (Int × (Int × (Int × (Int × Unit)))))))))) → Bool) (l : List (Int × (Int × (Int × (List Int × (Int × (Int × (Int × (Int × (Int × (Int × Unit))))))))))) : (idsF p l).length ≤ l.length := by unfold idsF; rw [List.length_map]; exact List.length_filter_le _ _
theorem fO_len (o : Int) (l : List (Int × (Int × (Int × (List Int × (Int × (Int × (Int × (Int × (Int × (Int × Unit))))))))))) : (fO o l).length ≤ l.length := List.length_filter_le _ _
theorem tk_len {α : Type} (l : List α) (n : Nat) : (l.take n).length ≤ l.length := by rw [List.length_take]; omega
theorem pow_small {h : Int} (h0 : 0 ≤ h) (h1 : h ≤ 11) : (1 : Int) ≤ 1 * 2 ^ h.toNat ∧ (1 : Int) * 2 ^ h.toNat ≤ 2048 := by
  obtain ⟨n, rfl⟩ : ∃ n : Nat, h = n := ⟨h.toNat, by omega⟩
  have : n ≤ 11 := by omega
  have : n = 0 ∨ n = 1 ∨ n = 2 ∨ n = 3 ∨ n = 4 ∨ n = 5 ∨ n = 6 ∨ n = 7 ∨ n = 8 ∨ n = 9 ∨ n = 10 ∨ n = 11 := by omega
  rcases this with rfl | rfl | rfl | rfl | rfl | rfl | rfl | rfl | rfl | rfl | rfl | rfl <;> decide

/-- The error of a call for an object and a number. -/
def askE (l : List (Int × (Int × (Int × (List Int × (Int × (Int × (Int × (Int × (Int × (Int × Unit))))))))))) (o n lo hi : Int) : Int := if chkL l ≠ 0 then chkL l else if ¬ (0 ≤ o ∧ o ≤ 1048576) ∨ ¬ (lo ≤ n ∧ n ≤ hi) then 3 else 0
theorem ask_ok {l : List (Int × (Int × (Int × (List Int × (Int × (Int × (Int × (Int × (Int × (Int × Unit))))))))))} {o n lo hi : Int} (h : askE l o n lo hi = 0) : chkL l = 0 ∧ (0 ≤ o ∧ o ≤ 1048576) ∧ lo ≤ n ∧ n ≤ hi := by
  unfold askE at h
  split at h
  · contradiction
  · rename_i h1
    split at h
    · cases h
    · rename_i h2
      exact ⟨Classical.not_not.1 h1, Classical.byContradiction fun g => h2 (.inl g), Classical.byContradiction fun g => h2 (.inr g)⟩
def atL (l : List (Int × (Int × (Int × (List Int × (Int × (Int × (Int × (Int × (Int × (Int × Unit))))))))))) (o t : Int) : List Int := if askE l o t 0 1000000 = 0 then idsF (pT t) (fO o l) else []
def whL (l : List (Int × (Int × (Int × (List Int × (Int × (Int × (Int × (Int × (Int × (Int × Unit))))))))))) (o t : Int) : Int := if askE l o t 0 1000000 = 0 then orF (pT t) (fO o l) else 0
def trL (l : List (Int × (Int × (Int × (List Int × (Int × (Int × (Int × (Int × (Int × (Int × Unit))))))))))) (o : Int) : Int := if askE l o 0 0 0 = 0 then orF pE (fO o l) else 0
def laL (l : List (Int × (Int × (Int × (List Int × (Int × (Int × (Int × (Int × (Int × (Int × Unit))))))))))) (o x : Int) : List Int := if askE l o x 0 1000000 = 0 then idsF (pL x) (fO o l) else []
theorem drop_fil {p : (Int × (Int × (Int × (List Int × (Int × (Int × (Int × (Int × (Int × (Int × Unit)))))))))) → Bool} {l F : List (Int × (Int × (Int × (List Int × (Int × (Int × (Int × (Int × (Int × (Int × Unit))))))))))} {k q : Nat} (h : F.drop k = (l.drop q).filter p) (hq : q < l.length) (hp : p (l.getD q d0) = true) : k < F.length ∧ F.getD k d0 = l.getD q d0 ∧ F.drop (k + 1) = (l.drop (q + 1)).filter p := by
  rw [drop_one d0 l q hq, List.filter_cons, if_pos hp] at h
  have hk : k < F.length := Classical.byContradiction fun g => by rw [List.drop_eq_nil_of_le (by omega)] at h; cases h
  rw [drop_one d0 F k hk] at h
  injection h with h1 h2
  exact ⟨hk, h1, h2⟩
theorem drop_nofil {p : (Int × (Int × (Int × (List Int × (Int × (Int × (Int × (Int × (Int × (Int × Unit)))))))))) → Bool} {l F : List (Int × (Int × (Int × (List Int × (Int × (Int × (Int × (Int × (Int × (Int × Unit))))))))))} {k q : Nat} (h : F.drop k = (l.drop q).filter p) (hq : q < l.length) (hp : p (l.getD q d0) = false) : F.drop k = (l.drop (q + 1)).filter p := by
  rw [h, drop_one d0 l q hq, List.filter_cons, if_neg (by rw [hp]; decide)]
theorem drop_end {l F : List (Int × (Int × (Int × (List Int × (Int × (Int × (Int × (Int × (Int × (Int × Unit))))))))))} {p : (Int × (Int × (Int × (List Int × (Int × (Int × (Int × (Int × (Int × (Int × Unit)))))))))) → Bool} {k q : Nat} (hk : k ≤ F.length) (h : F.drop k = (l.drop q).filter p) (hq : l.length ≤ q) : k = F.length := by
  rw [List.drop_eq_nil_of_le hq, List.filter_nil] at h
  have := congrArg List.length h
  rw [List.length_drop, List.length_nil] at this
  omega

/-- What spies do wrong. -/
def spE (bad : Int) (cs : List (Int × (Int × Unit))) : Int := if ¬ (0 ≤ bad ∧ bad ≤ 4095) then 1 else if 500 < cs.length then 2 else if ∃ c ∈ cs, ¬ (0 ≤ c.1 ∧ c.1 ≤ 11) ∨ ¬ (0 ≤ c.2.1 ∧ c.2.1 ≤ 1000000) then 3 else 0
def seeP (bad : Int) (cs : List (Int × (Int × Unit))) (a : (Int × (Int × (Int × (List Int × (Int × (Int × (Int × (Int × (Int × (Int × Unit))))))))))) : Prop := (bad / 2 ^ a.2.2.2.2.1.toNat % 2 = 1 ∧ a.2.2.2.2.2.2.1 < a.2.2.2.2.2.2.2.1) ∨ ∃ c ∈ cs, c.1 = a.2.2.2.2.1 ∧ a.2.2.2.2.2.2.1 ≤ c.2.1 ∧ c.2.1 < a.2.2.2.2.2.2.2.1
instance {bad cs a} : Decidable (seeP bad cs a) := by unfold seeP; infer_instance
def seeB (bad : Int) (cs : List (Int × (Int × Unit))) (a : (Int × (Int × (Int × (List Int × (Int × (Int × (Int × (Int × (Int × (Int × Unit))))))))))) : Bool := decide (seeP bad cs a)
def hasE (l : List (Int × (Int × (Int × (List Int × (Int × (Int × (Int × (Int × (Int × (Int × Unit))))))))))) (bad : Int) (cs : List (Int × (Int × Unit))) : Int := if chkL l ≠ 0 then chkL l else spE bad cs
def hasL (l : List (Int × (Int × (Int × (List Int × (Int × (Int × (Int × (Int × (Int × (Int × Unit))))))))))) (bad : Int) (cs : List (Int × (Int × Unit))) : List Int := if hasE l bad cs = 0 then idsF (seeB bad cs) l else []
theorem ixP_isC (p : (Int × (Int × Unit)) → Bool) {q : (Int × (Int × Unit)) → Prop} (l : List (Int × (Int × Unit))) (h : ∀ i, p i = true ↔ q i) : 0 ≤ ixP p l 0 ↔ ∃ i ∈ l, q i := by
  constructor
  · intro g
    refine Classical.byContradiction fun hn => ?_
    have := (ixP_none (p := p) (l := l) (k := 0)).2 fun a ha => by
      cases hp : p a with
      | false => rfl
      | true => exact absurd ⟨a, ha, (h a).1 hp⟩ hn
    omega
  · rintro ⟨i, hi, hq⟩
    refine Classical.byContradiction fun hn => ?_
    have := (ixP_none (p := p) (l := l) (k := 0)).1 (by omega) i hi
    rw [(h i).2 hq] at this; cases this
end Go.Proofs.Ytgljcfnplkcfhaa.S38

namespace Go.Proofs.Ytgljcfnplkcfhaa.S38
open Go

theorem ixP_at {α : Type} {p : α → Bool} (d : α) : ∀ {l : List α} {k : Nat}, ¬ ixP p l k < 0 → (k : Int) ≤ ixP p l k ∧ p (l.getD (ixP p l k - k).toNat d) = true
  | [], k, h => by simp [ixP] at h
  | a :: l, k, h => by
    unfold ixP at h ⊢
    split
    · rename_i g
      refine ⟨Int.le_refl _, ?_⟩
      rw [show ((k : Int) - k).toNat = 0 by omega]
      exact g
    · rename_i g
      rw [if_neg g] at h
      obtain ⟨h1, h2⟩ := ixP_at d h
      refine ⟨by omega, ?_⟩
      rw [show (ixP p l (k + 1) - (k : Int)).toNat = (ixP p l (k + 1) - ((k + 1 : Nat) : Int)).toNat + 1 by omega, List.getD_cons_succ]
      exact h2
theorem find_id {l : List (Int × (Int × (Int × (List Int × (Int × (Int × (Int × (Int × (Int × (Int × Unit))))))))))} {i : Int} (h : 0 ≤ findL l i) : (l.getD (findL l i).toNat d0).1 = i := by
  have := (ixP_at (p := fun a : (Int × (Int × (Int × (List Int × (Int × (Int × (Int × (Int × (Int × (Int × Unit)))))))))) => decide (a.1 = i)) d0 (l := l) (k := 0) (by unfold findL at h; omega)).2
  have := of_decide_eq_true this
  rw [show (findL l i).toNat = (ixP (fun a : (Int × (Int × (Int × (List Int × (Int × (Int × (Int × (Int × (Int × (Int × Unit)))))))))) => decide (a.1 = i)) l 0 - ((0 : Nat) : Int)).toNat by unfold findL; omega]
  exact this
theorem one_inc {l : List (Int × (Int × (Int × (List Int × (Int × (Int × (Int × (Int × (Int × (Int × Unit))))))))))} {k : Nat} (h : oneE l k = 0) (hk : 0 < k) : (l.getD (k - 1) d0).1 < (l.getD k d0).1 := by
  have hf := one_fmd h
  unfold oneE at h
  rw [if_neg (fun g => g hf)] at h
  split at h
  · cases h
  · rename_i g
    omega
theorem inc_lt {l : List (Int × (Int × (Int × (List Int × (Int × (Int × (Int × (Int × (Int × (Int × Unit))))))))))} (hc : chkL l = 0) {j : Nat} : ∀ {k : Nat}, j < k → k < l.length → (l.getD j d0).1 < (l.getD k d0).1
  | 0, h, _ => by omega
  | k + 1, h, hk => by
    have h1 := one_inc ((chk_ok hc).2 (k + 1) hk) (by omega)
    rw [Nat.add_sub_cancel] at h1
    rcases Nat.lt_or_ge j k with g | g
    · exact Int.lt_trans (inc_lt hc g (by omega)) h1
    · have : j = k := by omega
      rw [this]; exact h1
theorem id_inj {l : List (Int × (Int × (Int × (List Int × (Int × (Int × (Int × (Int × (Int × (Int × Unit))))))))))} (hc : chkL l = 0) {j k : Nat} (hj : j < l.length) (hk : k < l.length) (h : (l.getD j d0).1 = (l.getD k d0).1) : j = k := by
  rcases Nat.lt_trichotomy j k with g | g | g
  · have := inc_lt hc g hk; omega
  · exact g
  · have := inc_lt hc g hj; omega
theorem find_self {l : List (Int × (Int × (Int × (List Int × (Int × (Int × (Int × (Int × (Int × (Int × Unit))))))))))} (hc : chkL l = 0) {k : Nat} (hk : k < l.length) : findL l (l.getD k d0).1 = k := by
  have h0 : 0 ≤ findL l (l.getD k d0).1 := by
    refine Classical.byContradiction fun g => ?_
    have := ixP_none.1 (show ixP (fun a : (Int × (Int × (Int × (List Int × (Int × (Int × (Int × (Int × (Int × (Int × Unit)))))))))) => decide (a.1 = (l.getD k d0).1)) l 0 < 0 by unfold findL at g; omega) _ (getD_mem d0 l k hk)
    simp at this
  have h1 := findL_lt l _ h0
  have := id_inj hc (by omega) hk (find_id h0)
  omega
theorem stp_iff {l : List (Int × (Int × (Int × (List Int × (Int × (Int × (Int × (Int × (Int × (Int × Unit))))))))))} (hc : chkL l = 0) {j k : Nat} (hk : k < l.length) : (j : Int) ∈ stpA l k ↔ j < k ∧ (l.getD j d0).1 ∈ (l.getD k d0).2.2.2.1 := by
  unfold stpA
  rw [Int.toNat_natCast]
  constructor
  · intro h
    obtain ⟨y, hy, e⟩ := List.mem_map.1 h
    obtain ⟨h1, h2⟩ := one_find ((chk_ok hc).2 k hk) hy
    have := find_id h1
    rw [e, Int.toNat_natCast] at this
    exact ⟨by omega, by rw [this]; exact hy⟩
  · rintro ⟨h1, h2⟩
    exact List.mem_map.2 ⟨_, h2, find_self hc (by omega)⟩
theorem rep_false (n i : Nat) : (List.replicate n false).getD i false = false := by
  rw [List.getD_eq_getElem?_getD, List.getElem?_replicate]; split <;> rfl
/-- Above. -/
def Up (l : List (Int × (Int × (Int × (List Int × (Int × (Int × (Int × (Int × (Int × (Int × Unit))))))))))) (k i : Nat) : Prop := WR (stpA l) (List.replicate l.length false) k i
theorem Up.one {l : List (Int × (Int × (Int × (List Int × (Int × (Int × (Int × (Int × (Int × (Int × Unit))))))))))} (hc : chkL l = 0) {j k : Nat} (hk : k < l.length) (h : j < k) (hm : (l.getD j d0).1 ∈ (l.getD k d0).2.2.2.1) : Up l k j := WR.one ((stp_iff hc hk).2 ⟨h, hm⟩) (rep_false _ _)
theorem Up.step {l : List (Int × (Int × (Int × (List Int × (Int × (Int × (Int × (Int × (Int × (Int × Unit))))))))))} (hc : chkL l = 0) {j k i : Nat} (hk : k < l.length) (h : j < k) (hm : (l.getD j d0).1 ∈ (l.getD k d0).2.2.2.1) (hu : Up l j i) : Up l k i := WR.step ((stp_iff hc hk).2 ⟨h, hm⟩) (rep_false _ _) hu
theorem Up.cases {l : List (Int × (Int × (Int × (List Int × (Int × (Int × (Int × (Int × (Int × (Int × Unit))))))))))} (hc : chkL l = 0) {k i : Nat} (hk : k < l.length) (h : Up l k i) : ∃ j, j < k ∧ (l.getD j d0).1 ∈ (l.getD k d0).2.2.2.1 ∧ (j = i ∨ Up l j i) := by
  unfold Up at h
  generalize hkk : (k : Int) = kk at h
  cases h with
  | one h _ => subst hkk; obtain ⟨h1, h2⟩ := (stp_iff hc hk).1 h; exact ⟨_, h1, h2, .inl rfl⟩
  | step h _ hw => subst hkk; obtain ⟨h1, h2⟩ := (stp_iff hc hk).1 h; exact ⟨_, h1, h2, .inr hw⟩
theorem Up.lt {l : List (Int × (Int × (Int × (List Int × (Int × (Int × (Int × (Int × (Int × (Int × Unit))))))))))} (hc : chkL l = 0) : ∀ {k i : Nat}, k < l.length → Up l k i → i < k := by
  intro k
  induction k using Nat.strongRecOn with
  | ind k ih =>
    intro i hk h
    obtain ⟨j, h1, h2, h3⟩ := Up.cases hc hk h
    rcases h3 with rfl | h3
    · exact h1
    · exact Nat.lt_trans (ih j h1 (by omega) h3) h1
theorem Up.trans {l : List (Int × (Int × (Int × (List Int × (Int × (Int × (Int × (Int × (Int × (Int × Unit))))))))))} (hc : chkL l = 0) : ∀ {k j i : Nat}, k < l.length → Up l k j → Up l j i → Up l k i := by
  intro k
  induction k using Nat.strongRecOn with
  | ind k ih =>
    intro j i hk h g
    obtain ⟨m, h1, h2, h3⟩ := Up.cases hc hk h
    rcases h3 with rfl | h3
    · exact .step hc hk h1 h2 g
    · exact .step hc hk h1 h2 (ih m h1 (by omega) h3 g)

/-- What is above, gone through from the last one to the first one. -/
def abvR (l : List (Int × (Int × (Int × (List Int × (Int × (Int × (Int × (Int × (Int × (Int × Unit))))))))))) : Nat → List Int → List Int
  | 0, rs => rs
  | k + 1, rs => abvR l k (if (l.getD k d0).1 ∈ rs then rs ++ (l.getD k d0).2.2.2.1 else rs)
def inO (l : List (Int × (Int × (Int × (List Int × (Int × (Int × (Int × (Int × (Int × (Int × Unit))))))))))) (ids : List Int) : List Int := (l.filter fun a => decide (a.1 ∈ ids)).map fun a => a.1
def abvL (l : List (Int × (Int × (Int × (List Int × (Int × (Int × (Int × (Int × (Int × (Int × Unit))))))))))) (i : Int) : List Int := if chkL l = 0 ∧ 0 ≤ findL l i then inO l (abvR l (findL l i).toNat (l.getD (findL l i).toNat d0).2.2.2.1) else []
def blwR (l : List (Int × (Int × (Int × (List Int × (Int × (Int × (Int × (Int × (Int × (Int × Unit))))))))))) (m : Nat) (id : Int) : Nat → List Int
  | 0 => []
  | n + 1 => if m < n ∧ ∃ x ∈ (l.getD n d0).2.2.2.1, x = id ∨ x ∈ blwR l m id n then blwR l m id n ++ [(l.getD n d0).1] else blwR l m id n
def blwL (l : List (Int × (Int × (Int × (List Int × (Int × (Int × (Int × (Int × (Int × (Int × Unit))))))))))) (i : Int) : List Int := if chkL l = 0 ∧ 0 ≤ findL l i then inO l (blwR l (findL l i).toNat i l.length) else []

theorem abv_mem {l : List (Int × (Int × (Int × (List Int × (Int × (Int × (Int × (Int × (Int × (Int × Unit))))))))))} (hc : chkL l = 0) {x : Int} : ∀ {k : Nat} {rs : List Int}, k ≤ l.length → (x ∈ abvR l k rs ↔ x ∈ rs ∨ ∃ m i : Nat, m < k ∧ (l.getD m d0).1 ∈ rs ∧ Up l m i ∧ (l.getD i d0).1 = x)
  | 0, rs, _ => by simp [abvR]
  | k + 1, rs, hk => by
    rw [abvR, abv_mem hc (by omega)]
    by_cases hm : (l.getD k d0).1 ∈ rs
    · rw [if_pos hm]
      constructor
      · rintro (h | ⟨m, i, h1, h2, h3, h4⟩)
        · rcases List.mem_append.1 h with h | h
          · exact .inl h
          · obtain ⟨g1, g2⟩ := one_find ((chk_ok hc).2 k (by omega)) h
            have g3 := find_id g1
            exact .inr ⟨k, (findL l x).toNat, by omega, hm, .one hc (by omega) (by omega) (by rw [g3]; exact h), g3⟩
        · rcases List.mem_append.1 h2 with h2 | h2
          · exact .inr ⟨m, i, by omega, h2, h3, h4⟩
          · exact .inr ⟨k, i, by omega, hm, .step hc (by omega) h1 h2 h3, h4⟩
      · rintro (h | ⟨m, i, h1, h2, h3, h4⟩)
        · exact .inl (List.mem_append.2 (.inl h))
        · rcases Nat.lt_or_ge m k with g | g
          · exact .inr ⟨m, i, g, List.mem_append.2 (.inl h2), h3, h4⟩
          · have : m = k := by omega
            subst this
            obtain ⟨j, g1, g2, g3⟩ := h3.cases hc (by omega)
            rcases g3 with rfl | g3
            · exact .inl (List.mem_append.2 (.inr (by rw [← h4]; exact g2)))
            · exact .inr ⟨j, i, g1, List.mem_append.2 (.inr g2), g3, h4⟩
    · rw [if_neg hm]
      constructor
      · rintro (h | ⟨m, i, h1, h2⟩)
        · exact .inl h
        · exact .inr ⟨m, i, by omega, h2⟩
      · rintro (h | ⟨m, i, h1, h2⟩)
        · exact .inl h
        · refine .inr ⟨m, i, ?_, h2⟩
          rcases Nat.lt_or_ge m k with g | g
          · exact g
          · have : m = k := by omega
            subst this; exact absurd h2.1 hm
theorem abv_at {l : List (Int × (Int × (Int × (List Int × (Int × (Int × (Int × (Int × (Int × (Int × Unit))))))))))} (hc : chkL l = 0) {m i : Nat} (hm : m < l.length) (hi : i < l.length) : (l.getD i d0).1 ∈ abvR l m (l.getD m d0).2.2.2.1 ↔ Up l m i := by
  rw [abv_mem hc (by omega)]
  constructor
  · rintro (h | ⟨j, k, h1, h2, h3, h4⟩)
    · have := one_find ((chk_ok hc).2 m hm) h
      rw [find_self hc hi] at this
      exact .one hc hm (by omega) h
    · have : k = i := id_inj hc (by have := h3.lt hc (by omega); omega) hi h4
      subst this
      exact .step hc hm h1 h2 h3
  · intro h
    obtain ⟨j, h1, h2, h3⟩ := h.cases hc hm
    rcases h3 with rfl | h3
    · exact .inl h2
    · exact .inr ⟨j, i, h1, h2, h3, rfl⟩
theorem blw_mem {l : List (Int × (Int × (Int × (List Int × (Int × (Int × (Int × (Int × (Int × (Int × Unit))))))))))} (hc : chkL l = 0) {m : Nat} (hm : m < l.length) {x : Int} : ∀ {n : Nat}, n ≤ l.length → (x ∈ blwR l m (l.getD m d0).1 n ↔ ∃ k : Nat, k < n ∧ Up l k m ∧ (l.getD k d0).1 = x)
  | 0, _ => by simp [blwR]
  | n + 1, hn => by
    have hiff : (m < n ∧ ∃ y ∈ (l.getD n d0).2.2.2.1, y = (l.getD m d0).1 ∨ y ∈ blwR l m (l.getD m d0).1 n) ↔ Up l n m := by
      constructor
      · rintro ⟨h1, y, hy, rfl | h⟩
        · exact .one hc (by omega) h1 hy
        · obtain ⟨k, g1, g2, g3⟩ := (blw_mem hc hm (by omega)).1 h
          exact .step hc (by omega) g1 (by rw [g3]; exact hy) g2
      · intro h
        refine ⟨h.lt hc (by omega), ?_⟩
        obtain ⟨j, h1, h2, h3⟩ := h.cases hc (by omega)
        refine ⟨_, h2, ?_⟩
        rcases h3 with rfl | h3
        · exact .inl rfl
        · exact .inr ((blw_mem hc hm (by omega)).2 ⟨j, h1, h3, rfl⟩)
    rw [blwR]
    by_cases hu : Up l n m
    · rw [if_pos (hiff.2 hu), List.mem_append, blw_mem hc hm (by omega)]
      constructor
      · rintro (⟨k, h1, h2⟩ | h)
        · exact ⟨k, by omega, h2⟩
        · exact ⟨n, by omega, hu, (List.mem_singleton.1 h).symm⟩
      · rintro ⟨k, h1, h2, h3⟩
        rcases Nat.lt_or_ge k n with g | g
        · exact .inl ⟨k, g, h2, h3⟩
        · have : k = n := by omega
          subst this; exact .inr (by rw [h3]; simp)
    · rw [if_neg fun g => hu (hiff.1 g), blw_mem hc hm (by omega)]
      constructor
      · rintro ⟨k, h1, h2⟩; exact ⟨k, by omega, h2⟩
      · rintro ⟨k, h1, h2, h3⟩
        refine ⟨k, ?_, h2, h3⟩
        rcases Nat.lt_or_ge k n with g | g
        · exact g
        · have : k = n := by omega
          subst this; exact absurd h2 hu
theorem blw_at {l : List (Int × (Int × (Int × (List Int × (Int × (Int × (Int × (Int × (Int × (Int × Unit))))))))))} (hc : chkL l = 0) {m i : Nat} (hm : m < l.length) (hi : i < l.length) : (l.getD i d0).1 ∈ blwR l m (l.getD m d0).1 l.length ↔ Up l i m := by
  rw [blw_mem hc hm (Nat.le_refl _)]
  constructor
  · rintro ⟨k, h1, h2, h3⟩
    have := id_inj hc h1 hi h3
    subst this; exact h2
  · intro h; exact ⟨i, hi, h, rfl⟩
theorem stpB_iff {l : List (Int × (Int × (Int × (List Int × (Int × (Int × (Int × (Int × (Int × (Int × Unit))))))))))} {i k : Nat} : (i : Int) ∈ stpB l k ↔ i < l.length ∧ (l.getD k d0).1 ∈ (l.getD i d0).2.2.2.1 := by
  unfold stpB
  rw [List.mem_map]
  constructor
  · rintro ⟨j, h, e⟩
    obtain ⟨h1, h2⟩ := List.mem_filter.1 h
    have : j = i := by omega
    subst this
    have h2 := of_decide_eq_true h2
    rw [Int.toNat_natCast] at h2
    exact ⟨List.mem_range.1 h1, h2⟩
  · rintro ⟨h1, h2⟩
    exact ⟨i, List.mem_filter.2 ⟨List.mem_range.2 h1, decide_eq_true (by rw [Int.toNat_natCast]; exact h2)⟩, rfl⟩
theorem dn_up {l : List (Int × (Int × (Int × (List Int × (Int × (Int × (Int × (Int × (Int × (Int × Unit))))))))))} (hc : chkL l = 0) {xs : List Bool} {k : Int} {i : Nat} (h : WR (stpB l) xs k i) : ∀ m : Nat, k = m → m < l.length → i < l.length ∧ Up l i m := by
  induction h with
  | one h _ =>
    rintro m rfl hm
    obtain ⟨h1, h2⟩ := stpB_iff.1 h
    have g := one_find ((chk_ok hc).2 _ h1) h2
    rw [find_self hc hm] at g
    exact ⟨h1, .one hc h1 (by omega) h2⟩
  | step h _ hw ih =>
    rintro m rfl hm
    obtain ⟨h1, h2⟩ := stpB_iff.1 h
    have g := one_find ((chk_ok hc).2 _ h1) h2
    rw [find_self hc hm] at g
    obtain ⟨q1, q2⟩ := ih _ rfl h1
    exact ⟨q1, .trans hc q1 q2 (.one hc h1 (by omega) h2)⟩
theorem up_dn {l : List (Int × (Int × (Int × (List Int × (Int × (Int × (Int × (Int × (Int × (Int × Unit))))))))))} (hc : chkL l = 0) {m : Nat} : ∀ {i : Nat}, i < l.length → Up l i m → WR (stpB l) (List.replicate l.length false) m i := by
  intro i
  induction i using Nat.strongRecOn with
  | ind i ih =>
    intro hi h
    obtain ⟨j, h1, h2, h3⟩ := h.cases hc hi
    have hB : (i : Int) ∈ stpB l j := stpB_iff.2 ⟨hi, h2⟩
    rcases h3 with rfl | h3
    · exact .one hB (rep_false _ _)
    · exact (ih j h1 (by omega) h3).snoc hB (rep_false _ _)
theorem pick_inO {l : List (Int × (Int × (Int × (List Int × (Int × (Int × (Int × (Int × (Int × (Int × Unit))))))))))} {bs : List Bool} {ids : List Int} (h : ∀ i : Nat, i < l.length → (bs.getD i false = true ↔ (l.getD i d0).1 ∈ ids)) : ∀ n : Nat, n ≤ l.length → pickN l bs n = inO (l.take n) ids
  | 0, _ => rfl
  | n + 1, hn => by
    have e : inO (l.take (n + 1)) ids = inO (l.take n) ids ++ (if (l.getD n d0).1 ∈ ids then [(l.getD n d0).1] else []) := by
      unfold inO
      rw [take_snoc d0 l n (by omega), List.filter_append, List.map_append]
      congr 1
      by_cases g : (l.getD n d0).1 ∈ ids
      · rw [if_pos g, List.filter_cons, if_pos (decide_eq_true g)]; rfl
      · rw [if_neg g, List.filter_cons, if_neg (by rw [decide_eq_false g]; decide)]; rfl
    rw [e, pickN, pick_inO h n (by omega)]
    by_cases g : (l.getD n d0).1 ∈ ids
    · rw [if_pos ((h n (by omega)).2 g), if_pos g]
    · rw [if_neg fun q => g ((h n (by omega)).1 q), if_neg g, List.append_nil]
theorem clo_rep {st : Int → List Int} {n : Nat} {k : Int} {i : Nat} (hi : i < n) : (cloL st (List.replicate n false) k).getD i false = true ↔ WR st (List.replicate n false) k i := by
  rw [clo_get, List.length_replicate, rep_false]
  constructor
  · rintro ⟨_, h | h⟩
    · cases h
    · exact h
  · intro h; exact ⟨hi, .inr h⟩
theorem closL_abv (l : List (Int × (Int × (Int × (List Int × (Int × (Int × (Int × (Int × (Int × (Int × Unit))))))))))) (i : Int) : closL stpA l i = abvL l i := by
  unfold closL abvL
  by_cases h : chkL l = 0 ∧ 0 ≤ findL l i
  · rw [if_pos h, if_pos h]
    obtain ⟨hc, h0⟩ := h
    have hlt := findL_lt l i h0
    have := pick_inO (l := l) (bs := cloL (stpA l) (List.replicate l.length false) (findL l i)) (ids := abvR l (findL l i).toNat (l.getD (findL l i).toNat d0).2.2.2.1) (fun j hj => by
      rw [clo_rep hj, abv_at hc (by omega) hj]
      unfold Up
      rw [show ((findL l i).toNat : Int) = findL l i by omega]) l.length (Nat.le_refl _)
    rw [this, List.take_length]
  · rw [if_neg h, if_neg h]
theorem closL_blw (l : List (Int × (Int × (Int × (List Int × (Int × (Int × (Int × (Int × (Int × (Int × Unit))))))))))) (i : Int) : closL stpB l i = blwL l i := by
  unfold closL blwL
  by_cases h : chkL l = 0 ∧ 0 ≤ findL l i
  · rw [if_pos h, if_pos h]
    obtain ⟨hc, h0⟩ := h
    have hlt := findL_lt l i h0
    have := pick_inO (l := l) (bs := cloL (stpB l) (List.replicate l.length false) (findL l i)) (ids := blwR l (findL l i).toNat i l.length) (fun j hj => by
      have e := blw_at hc (m := (findL l i).toNat) (by omega) hj
      rw [find_id h0] at e
      rw [clo_rep hj, e]
      constructor
      · intro g
        exact (dn_up hc g (findL l i).toNat (by omega) (by omega)).2
      · intro g
        have := up_dn hc hj g
        rwa [show ((findL l i).toNat : Int) = findL l i by omega] at this) l.length (Nat.le_refl _)
    rw [this, List.take_length]
  · rw [if_neg h, if_neg h]
end Go.Proofs.Ytgljcfnplkcfhaa.S38

namespace Go.Proofs.Ytgljcfnplkcfhaa.S38
open Go Go.Proofs.Ytgljcfnplkcfhaa.Vc Go.Proofs
set_option maxRecDepth 100000
set_option linter.unusedVariables false

set_option maxHeartbeats 1000000 in
theorem bClo0 (l : List (Int × (Int × (Int × (List Int × (Int × (Int × (Int × (Int × (Int × (Int × Unit))))))))))) (id : Int) (l2 : List (Int × (Int × (Int × (List Int × (Int × (Int × (Int × (Int × (Int × (Int × Unit))))))))))) (hp0 : l.length ≤ 1048576) (hp1 : (∀ a ∈ l, a.2.2.2.1.length ≤ 1048576)) (hp2 : l = l2) : bodyP (En CTu tys [] [] [6000000]) Try.f101 [.o (.int .i64), .k] [.sl false (.cons (.int .i64) (.cons (.int .i64) (.cons (.int .i64) (.cons (.sl (.int .i64)) (.cons (.int .i64) (.cons (.int .i64) (.cons (.int .i64) (.cons (.int .i64) (.cons (.int .i64) (.cons (.int .i64) .nil)))))))))) l, .int .i64 id, .fn 102 [.rp false (.sl (.cons (.int .i64) (.cons (.int .i64) (.cons (.int .i64) (.cons (.sl (.int .i64)) (.cons (.int .i64) (.cons (.int .i64) (.cons (.int .i64) (.cons (.int .i64) (.cons (.int .i64) (.cons (.int .i64) .nil))))))))))) l2 0]] (.tup [.own (.int .i64) 0, .int .i64 (closE l id)]) [.row true (.int .i64) (closL stpA l id)] := by
 subst hp2
 refine ⟨⟨by show l.length ≤ 1048576; first | omega | assumption, by first | assumption | simp⟩, fun h0 => ?_, fun h0 => ?_⟩
 ·replace h0 : (chkL l) ≠ 0 := h0
  have e1 : closE l id = chkL l := if_pos h0
  have e2 : closL stpA l id = [] := if_neg fun g => h0 g.1
  rw [e1, e2]
  exact ⟨rfl, rfl, rfl, rfl⟩
 ·replace h0 : ¬ ((chkL l) ≠ 0) := h0
  have hc0 : chkL l = 0 := Classical.not_not.1 h0
  have hl4 := (chk_ok hc0).1
  refine ⟨rfl, by show l.length ≤ 1048576; first | omega | assumption, fun h1 => ?_, fun h1 => ?_⟩
  ·replace h1 : (findL l id) < 0 := h1
   have e1 : closE l id = 8 := by unfold closE; rw [if_neg h0, if_pos h1]
   have e2 : closL stpA l id = [] := if_neg (by omega)
   rw [e1, e2]
   exact ⟨rfl, rfl, rfl, rfl⟩
  ·replace h1 : ¬ ((findL l id) < 0) := h1
   have hfl := findL_lt l id (by omega)
   have hT1 : 0 < (List.replicate l.length false).length := by rw [List.length_replicate]; omega
   have hT2 : (cloL (stpA l) (List.replicate l.length false) (findL l id)).length = (List.replicate l.length false).length := clo_len _ _ _
   have hT3 : okT (stpA l) l (findL l id) (List.replicate l.length false) := okA hc0 hp1 (by omega) hfl List.length_replicate
   have hcl : (cloL (stpA l) (List.replicate l.length false) (findL l id)).length = l.length := by rw [clo_len, List.length_replicate]
   refine ⟨⟨rfl, by show (0 : Int) ≤ (l.length : Int); omega, by show (l.length : Int) ≤ (1000000000 : Int); omega⟩, ⟨rfl, rfl, rfl⟩, ⟨rfl, rfl, rfl⟩, ⟨rfl, rfl, rfl, rfl, by decide, hT1, hT2⟩, hT3, 0, [(0, .k), (12, .o (.int .i64)), (32, .d .bool), (33, .k), (34, .k)], fun nM vs H => ∃ (n : Nat), n ≤ l.length ∧ nM = l.length - n ∧ vs = [.sl false (.cons (.int .i64) (.cons (.int .i64) (.cons (.int .i64) (.cons (.sl (.int .i64)) (.cons (.int .i64) (.cons (.int .i64) (.cons (.int .i64) (.cons (.int .i64) (.cons (.int .i64) (.cons (.int .i64) .nil)))))))))) l, .own (.int .i64) 0, .sl true .bool (cloL (stpA l) (List.replicate l.length false) (findL l id)), .int .i64 (((cloL (stpA l) (List.replicate l.length false) (findL l id)).length : Nat) : Int), .int .i64 (n : Int)] ∧ H = [.row true (.int .i64) (pickN l (cloL (stpA l) (List.replicate l.length false) (findL l id)) n)], ⟨rfl, l.length, 0, by omega, by omega, rfl, rfl⟩, ?_⟩
   rintro nM vs H ⟨n, hc1_0, rfl, rfl, rfl⟩
   refine ⟨fun h2 => ?_, fun h2 => ?_⟩
   ·replace h2 : (n : Int) < (((cloL (stpA l) (List.replicate l.length false) (findL l id)).length : Nat) : Int) := h2
    have hn : n < l.length := by omega
    have hpl := pick_len l (cloL (stpA l) (List.replicate l.length false) (findL l id)) n
    refine ⟨⟨by show (0 : Int) ≤ (n : Int); omega, by show (n : Int) < ((cloL (stpA l) (List.replicate l.length false) (findL l id)).length : Int); omega⟩, fun h3 => ?_, fun h3 => ?_⟩
    ·replace h3 : (cloL (stpA l) (List.replicate l.length false) (findL l id)).getD n false = true := h3
     refine ⟨⟨by show (0 : Int) ≤ (n : Int); omega, by show (n : Int) < (l.length : Int); omega⟩, rfl, ⟨rfl, rfl⟩, by show (pickN l (cloL (stpA l) (List.replicate l.length false) (findL l id)) n).length + ([(l.getD n d0).1] : List Int).length ≤ 1000000000; simp only [List.length_cons, List.length_nil]; omega, ⟨by show (-9223372036854775808 : Int) ≤ ((n : Int) + 1); omega, by show ((n : Int) + 1) ≤ (9223372036854775807 : Int); omega⟩, ?_⟩
     exact ⟨rfl, l.length - (n + 1), by omega, n + 1, by omega, rfl, rfl, by rw [pickN, if_pos h3]; rfl⟩
    ·replace h3 : ¬ ((cloL (stpA l) (List.replicate l.length false) (findL l id)).getD n false = true) := h3
     refine ⟨⟨by show (-9223372036854775808 : Int) ≤ ((n : Int) + 1); omega, by show ((n : Int) + 1) ≤ (9223372036854775807 : Int); omega⟩, ?_⟩
     exact ⟨rfl, l.length - (n + 1), by omega, n + 1, by omega, rfl, rfl, by rw [pickN, if_neg h3]; rfl⟩
   ·replace h2 : ¬ ((n : Int) < (((cloL (stpA l) (List.replicate l.length false) (findL l id)).length : Nat) : Int)) := h2
    have e1 : closE l id = 0 := by unfold closE; rw [if_neg h0, if_neg h1]
    have e2 : closL stpA l id = pickN l (cloL (stpA l) (List.replicate l.length false) (findL l id)) n := by unfold closL; rw [if_pos ⟨hc0, by omega⟩, show l.length = n by omega]
    rw [e1, e2]
    exact ⟨rfl, rfl, rfl, rfl⟩
set_option maxHeartbeats 1000000 in
theorem bClo1 (l : List (Int × (Int × (Int × (List Int × (Int × (Int × (Int × (Int × (Int × (Int × Unit))))))))))) (id : Int) (l2 : List (Int × (Int × (Int × (List Int × (Int × (Int × (Int × (Int × (Int × (Int × Unit))))))))))) (hp0 : l.length ≤ 1048576) (hp1 : (∀ a ∈ l, a.2.2.2.1.length ≤ 1048576)) (hp2 : l = l2) : bodyP (En CTu tys [] [] [6000000]) Try.f101 [.o (.int .i64), .k] [.sl false (.cons (.int .i64) (.cons (.int .i64) (.cons (.int .i64) (.cons (.sl (.int .i64)) (.cons (.int .i64) (.cons (.int .i64) (.cons (.int .i64) (.cons (.int .i64) (.cons (.int .i64) (.cons (.int .i64) .nil)))))))))) l, .int .i64 id, .fn 104 [.rp false (.sl (.cons (.int .i64) (.cons (.int .i64) (.cons (.int .i64) (.cons (.sl (.int .i64)) (.cons (.int .i64) (.cons (.int .i64) (.cons (.int .i64) (.cons (.int .i64) (.cons (.int .i64) (.cons (.int .i64) .nil))))))))))) l2 0]] (.tup [.own (.int .i64) 0, .int .i64 (closE l id)]) [.row true (.int .i64) (closL stpB l id)] := by
 subst hp2
 refine ⟨⟨by show l.length ≤ 1048576; first | omega | assumption, by first | assumption | simp⟩, fun h0 => ?_, fun h0 => ?_⟩
 ·replace h0 : (chkL l) ≠ 0 := h0
  have e1 : closE l id = chkL l := if_pos h0
  have e2 : closL stpB l id = [] := if_neg fun g => h0 g.1
  rw [e1, e2]
  exact ⟨rfl, rfl, rfl, rfl⟩
 ·replace h0 : ¬ ((chkL l) ≠ 0) := h0
  have hc0 : chkL l = 0 := Classical.not_not.1 h0
  have hl4 := (chk_ok hc0).1
  refine ⟨rfl, by show l.length ≤ 1048576; first | omega | assumption, fun h1 => ?_, fun h1 => ?_⟩
  ·replace h1 : (findL l id) < 0 := h1
   have e1 : closE l id = 8 := by unfold closE; rw [if_neg h0, if_pos h1]
   have e2 : closL stpB l id = [] := if_neg (by omega)
   rw [e1, e2]
   exact ⟨rfl, rfl, rfl, rfl⟩
  ·replace h1 : ¬ ((findL l id) < 0) := h1
   have hfl := findL_lt l id (by omega)
   have hT1 : 0 < (List.replicate l.length false).length := by rw [List.length_replicate]; omega
   have hT2 : (cloL (stpB l) (List.replicate l.length false) (findL l id)).length = (List.replicate l.length false).length := clo_len _ _ _
   have hT3 : okT (stpB l) l (findL l id) (List.replicate l.length false) := okB hc0 hp1 (by omega) hfl List.length_replicate
   have hcl : (cloL (stpB l) (List.replicate l.length false) (findL l id)).length = l.length := by rw [clo_len, List.length_replicate]
   refine ⟨⟨rfl, by show (0 : Int) ≤ (l.length : Int); omega, by show (l.length : Int) ≤ (1000000000 : Int); omega⟩, ⟨rfl, rfl, rfl⟩, ⟨rfl, rfl, rfl⟩, ⟨rfl, rfl, rfl, rfl, by decide, hT1, hT2⟩, hT3, 0, [(0, .k), (12, .o (.int .i64)), (32, .d .bool), (33, .k), (34, .k)], fun nM vs H => ∃ (n : Nat), n ≤ l.length ∧ nM = l.length - n ∧ vs = [.sl false (.cons (.int .i64) (.cons (.int .i64) (.cons (.int .i64) (.cons (.sl (.int .i64)) (.cons (.int .i64) (.cons (.int .i64) (.cons (.int .i64) (.cons (.int .i64) (.cons (.int .i64) (.cons (.int .i64) .nil)))))))))) l, .own (.int .i64) 0, .sl true .bool (cloL (stpB l) (List.replicate l.length false) (findL l id)), .int .i64 (((cloL (stpB l) (List.replicate l.length false) (findL l id)).length : Nat) : Int), .int .i64 (n : Int)] ∧ H = [.row true (.int .i64) (pickN l (cloL (stpB l) (List.replicate l.length false) (findL l id)) n)], ⟨rfl, l.length, 0, by omega, by omega, rfl, rfl⟩, ?_⟩
   rintro nM vs H ⟨n, hc1_0, rfl, rfl, rfl⟩
   refine ⟨fun h2 => ?_, fun h2 => ?_⟩
   ·replace h2 : (n : Int) < (((cloL (stpB l) (List.replicate l.length false) (findL l id)).length : Nat) : Int) := h2
    have hn : n < l.length := by omega
    have hpl := pick_len l (cloL (stpB l) (List.replicate l.length false) (findL l id)) n
    refine ⟨⟨by show (0 : Int) ≤ (n : Int); omega, by show (n : Int) < ((cloL (stpB l) (List.replicate l.length false) (findL l id)).length : Int); omega⟩, fun h3 => ?_, fun h3 => ?_⟩
    ·replace h3 : (cloL (stpB l) (List.replicate l.length false) (findL l id)).getD n false = true := h3
     refine ⟨⟨by show (0 : Int) ≤ (n : Int); omega, by show (n : Int) < (l.length : Int); omega⟩, rfl, ⟨rfl, rfl⟩, by show (pickN l (cloL (stpB l) (List.replicate l.length false) (findL l id)) n).length + ([(l.getD n d0).1] : List Int).length ≤ 1000000000; simp only [List.length_cons, List.length_nil]; omega, ⟨by show (-9223372036854775808 : Int) ≤ ((n : Int) + 1); omega, by show ((n : Int) + 1) ≤ (9223372036854775807 : Int); omega⟩, ?_⟩
     exact ⟨rfl, l.length - (n + 1), by omega, n + 1, by omega, rfl, rfl, by rw [pickN, if_pos h3]; rfl⟩
    ·replace h3 : ¬ ((cloL (stpB l) (List.replicate l.length false) (findL l id)).getD n false = true) := h3
     refine ⟨⟨by show (-9223372036854775808 : Int) ≤ ((n : Int) + 1); omega, by show ((n : Int) + 1) ≤ (9223372036854775807 : Int); omega⟩, ?_⟩
     exact ⟨rfl, l.length - (n + 1), by omega, n + 1, by omega, rfl, rfl, by rw [pickN, if_neg h3]; rfl⟩
   ·replace h2 : ¬ ((n : Int) < (((cloL (stpB l) (List.replicate l.length false) (findL l id)).length : Nat) : Int)) := h2
    have e1 : closE l id = 0 := by unfold closE; rw [if_neg h0, if_neg h1]
    have e2 : closL stpB l id = pickN l (cloL (stpB l) (List.replicate l.length false) (findL l id)) n := by unfold closL; rw [if_pos ⟨hc0, by omega⟩, show l.length = n by omega]
    rw [e1, e2]
    exact ⟨rfl, rfl, rfl, rfl⟩
noncomputable def sClo : List V → Option (Prop × V × List Blk)
  | [.sl false (.cons (.int .i64) (.cons (.int .i64) (.cons (.int .i64) (.cons (.sl (.int .i64)) (.cons (.int .i64) (.cons (.int .i64) (.cons (.int .i64) (.cons (.int .i64) (.cons (.int .i64) (.cons (.int .i64) .nil)))))))))) l, .int .i64 id, .fn 102 [.rp false (.sl (.cons (.int .i64) (.cons (.int .i64) (.cons (.int .i64) (.cons (.sl (.int .i64)) (.cons (.int .i64) (.cons (.int .i64) (.cons (.int .i64) (.cons (.int .i64) (.cons (.int .i64) (.cons (.int .i64) .nil))))))))))) l2 0]] => some (l.length ≤ 1048576 ∧ (∀ a ∈ l, a.2.2.2.1.length ≤ 1048576) ∧ l = l2, .tup [.own (.int .i64) 0, .int .i64 (closE l id)], [.row true (.int .i64) (closL stpA l id)])
  | [.sl false (.cons (.int .i64) (.cons (.int .i64) (.cons (.int .i64) (.cons (.sl (.int .i64)) (.cons (.int .i64) (.cons (.int .i64) (.cons (.int .i64) (.cons (.int .i64) (.cons (.int .i64) (.cons (.int .i64) .nil)))))))))) l, .int .i64 id, .fn 104 [.rp false (.sl (.cons (.int .i64) (.cons (.int .i64) (.cons (.int .i64) (.cons (.sl (.int .i64)) (.cons (.int .i64) (.cons (.int .i64) (.cons (.int .i64) (.cons (.int .i64) (.cons (.int .i64) (.cons (.int .i64) .nil))))))))))) l2 0]] => some (l.length ≤ 1048576 ∧ (∀ a ∈ l, a.2.2.2.1.length ≤ 1048576) ∧ l = l2, .tup [.own (.int .i64) 0, .int .i64 (closE l id)], [.row true (.int .i64) (closL stpB l id)])
  | _ => none
def CClo : List (Nat × Con) := (101, pureC [.v (.sl (.cons (.int .i64) (.cons (.int .i64) (.cons (.int .i64) (.cons (.sl (.int .i64)) (.cons (.int .i64) (.cons (.int .i64) (.cons (.int .i64) (.cons (.int .i64) (.cons (.int .i64) (.cons (.int .i64) .nil))))))))))), .v (.int .i64), .fn [(102, [.ref (.sl (.cons (.int .i64) (.cons (.int .i64) (.cons (.int .i64) (.cons (.sl (.int .i64)) (.cons (.int .i64) (.cons (.int .i64) (.cons (.int .i64) (.cons (.int .i64) (.cons (.int .i64) (.cons (.int .i64) .nil)))))))))))]), (104, [.ref (.sl (.cons (.int .i64) (.cons (.int .i64) (.cons (.int .i64) (.cons (.sl (.int .i64)) (.cons (.int .i64) (.cons (.int .i64) (.cons (.int .i64) (.cons (.int .i64) (.cons (.int .i64) (.cons (.int .i64) .nil)))))))))))])]] sClo) :: CBeS
theorem kClo : Known Try.prog (En CClo tys [] []) := kBeS.addT kTu Try.func101 Try.call101 [.o (.int .i64), .k] fun ds p v bs h hp => by
  unfold sClo at h
  split at h <;> simp only [Option.some.injEq, Prod.mk.injEq, reduceCtorEq] at h
  · obtain ⟨rfl, rfl, rfl⟩ := h
    exact bClo0 _ _ _ hp.1 hp.2.1 hp.2.2
  · obtain ⟨rfl, rfl, rfl⟩ := h
    exact bClo1 _ _ _ hp.1 hp.2.1 hp.2.2
noncomputable def sAbo : List V → Option (Prop × V × List Blk)
  | [.sl false (.cons (.int .i64) (.cons (.int .i64) (.cons (.int .i64) (.cons (.sl (.int .i64)) (.cons (.int .i64) (.cons (.int .i64) (.cons (.int .i64) (.cons (.int .i64) (.cons (.int .i64) (.cons (.int .i64) .nil)))))))))) l, .int .i64 id] => some (l.length ≤ 1048576 ∧ (∀ a ∈ l, a.2.2.2.1.length ≤ 1048576), .tup [.own (.int .i64) 0, .int .i64 (closE l id)], [.row true (.int .i64) (abvL l id)])
  | _ => none
set_option maxHeartbeats 1000000 in
theorem bAbo (l : List (Int × (Int × (Int × (List Int × (Int × (Int × (Int × (Int × (Int × (Int × Unit))))))))))) (id : Int) (hp0 : l.length ≤ 1048576) (hp1 : (∀ a ∈ l, a.2.2.2.1.length ≤ 1048576)) : bodyP (En CClo tys [] []) Try.f50 [.o (.int .i64), .k] [.sl false (.cons (.int .i64) (.cons (.int .i64) (.cons (.int .i64) (.cons (.sl (.int .i64)) (.cons (.int .i64) (.cons (.int .i64) (.cons (.int .i64) (.cons (.int .i64) (.cons (.int .i64) (.cons (.int .i64) .nil)))))))))) l, .int .i64 id] (.tup [.own (.int .i64) 0, .int .i64 (closE l id)]) [.row true (.int .i64) (abvL l id)] := by
 refine ⟨rfl, ⟨by show l.length ≤ 1048576; first | omega | assumption, by first | assumption | simp, rfl⟩, ?_⟩
 rw [← closL_abv]
 exact ⟨rfl, rfl, rfl, rfl⟩
def CAbo : List (Nat × Con) := (50, pureC [.v (.sl (.cons (.int .i64) (.cons (.int .i64) (.cons (.int .i64) (.cons (.sl (.int .i64)) (.cons (.int .i64) (.cons (.int .i64) (.cons (.int .i64) (.cons (.int .i64) (.cons (.int .i64) (.cons (.int .i64) .nil))))))))))), .v (.int .i64)] sAbo) :: CClo
theorem kAbo : Known Try.prog (En CAbo tys [] []) := kClo.add Try.func50 Try.call50 [.o (.int .i64), .k] fun ds p v bs h hp => by
  unfold sAbo at h
  split at h <;> simp only [Option.some.injEq, Prod.mk.injEq, reduceCtorEq] at h
  obtain ⟨rfl, rfl, rfl⟩ := h
  exact bAbo _ _ hp.1 hp.2
noncomputable def sBel : List V → Option (Prop × V × List Blk)
  | [.sl false (.cons (.int .i64) (.cons (.int .i64) (.cons (.int .i64) (.cons (.sl (.int .i64)) (.cons (.int .i64) (.cons (.int .i64) (.cons (.int .i64) (.cons (.int .i64) (.cons (.int .i64) (.cons (.int .i64) .nil)))))))))) l, .int .i64 id] => some (l.length ≤ 1048576 ∧ (∀ a ∈ l, a.2.2.2.1.length ≤ 1048576), .tup [.own (.int .i64) 0, .int .i64 (closE l id)], [.row true (.int .i64) (blwL l id)])
  | _ => none
set_option maxHeartbeats 1000000 in
theorem bBel (l : List (Int × (Int × (Int × (List Int × (Int × (Int × (Int × (Int × (Int × (Int × Unit))))))))))) (id : Int) (hp0 : l.length ≤ 1048576) (hp1 : (∀ a ∈ l, a.2.2.2.1.length ≤ 1048576)) : bodyP (En CAbo tys [] []) Try.f52 [.o (.int .i64), .k] [.sl false (.cons (.int .i64) (.cons (.int .i64) (.cons (.int .i64) (.cons (.sl (.int .i64)) (.cons (.int .i64) (.cons (.int .i64) (.cons (.int .i64) (.cons (.int .i64) (.cons (.int .i64) (.cons (.int .i64) .nil)))))))))) l, .int .i64 id] (.tup [.own (.int .i64) 0, .int .i64 (closE l id)]) [.row true (.int .i64) (blwL l id)] := by
 refine ⟨rfl, ⟨by show l.length ≤ 1048576; first | omega | assumption, by first | assumption | simp, rfl⟩, ?_⟩
 rw [← closL_blw]
 exact ⟨rfl, rfl, rfl, rfl⟩
def CBel : List (Nat × Con) := (52, pureC [.v (.sl (.cons (.int .i64) (.cons (.int .i64) (.cons (.int .i64) (.cons (.sl (.int .i64)) (.cons (.int .i64) (.cons (.int .i64) (.cons (.int .i64) (.cons (.int .i64) (.cons (.int .i64) (.cons (.int .i64) .nil))))))))))), .v (.int .i64)] sBel) :: CAbo
theorem kBel : Known Try.prog (En CBel tys [] []) := kAbo.add Try.func52 Try.call52 [.o (.int .i64), .k] fun ds p v bs h hp => by
  unfold sBel at h
  split at h <;> simp only [Option.some.injEq, Prod.mk.injEq, reduceCtorEq] at h
  obtain ⟨rfl, rfl, rfl⟩ := h
  exact bBel _ _ hp.1 hp.2
end Go.Proofs.Ytgljcfnplkcfhaa.S38

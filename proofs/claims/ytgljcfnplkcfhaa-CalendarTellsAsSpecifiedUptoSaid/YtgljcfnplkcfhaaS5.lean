/- Texts of this claim: S29.Pf, S29.R3. -/
import Derived.Test.YtgljcfnplkcfhaaS2
import Derived.Test.YtgljcfnplkcfhaaS4
set_option linter.unusedVariables false
set_option linter.unusedSimpArgs false
namespace Go.Proofs.Ytgljcfnplkcfhaa.S29
open Go

/-! ### sets of houses, as sums over the list -/
def pwN (k : Nat) : Int := 2 ^ k
theorem pwN_succ (k : Nat) : 2 * pwN k = pwN (k + 1) := by unfold pwN; rw [Int.pow_succ]; omega
theorem pwN_bd : ∀ k, k ≤ 12 → 1 ≤ pwN k ∧ pwN k ≤ 4096 := by decide
theorem pwN_bd11 : ∀ k, k ≤ 11 → 1 ≤ pwN k ∧ pwN k ≤ 2048 := by decide
theorem pwN_nat (k : Nat) : pwN k = ((2 ^ k : Nat) : Int) := by simp [pwN]
def cpdB (l : List Cp) (h f t : Int) : Bool := l.any fun x => decide (x.1 = h ∧ f ≤ x.2.1 ∧ x.2.1 ≤ t)
def setS (f : Nat → Bool) : List Int → Int
  | [] => 0
  | h :: t => (if f h.toNat = true then pwN h.toNat else 0) + setS f t
def cntS (f : Nat → Bool) : List Int → Nat
  | [] => 0
  | h :: t => (if f h.toNat = true then 1 else 0) + cntS f t
theorem setS_app (f : Nat → Bool) : ∀ a b : List Int, setS f (a ++ b) = setS f a + setS f b
  | [], b => by simp [setS]
  | h :: t, b => by rw [List.cons_append, setS, setS, setS_app f t b]; omega
theorem cntS_app (f : Nat → Bool) : ∀ a b : List Int, cntS f (a ++ b) = cntS f a + cntS f b
  | [], b => by simp [cntS]
  | h :: t, b => by rw [List.cons_append, cntS, cntS, cntS_app f t b]; omega
theorem setS_snoc (f : Nat → Bool) {l : List Int} {k : Nat} (hk : k < l.length) : setS f (l.take (k + 1)) = setS f (l.take k) + (if f (l.getD k 0).toNat = true then pwN (l.getD k 0).toNat else 0) := by
  rw [take_snoc 0 l k hk, setS_app, setS, setS]; omega
theorem cntS_snoc (f : Nat → Bool) {l : List Int} {k : Nat} (hk : k < l.length) : cntS f (l.take (k + 1)) = cntS f (l.take k) + (if f (l.getD k 0).toNat = true then 1 else 0) := by
  rw [take_snoc 0 l k hk, cntS_app, cntS, cntS]; omega
theorem cntS_le (f : Nat → Bool) : ∀ l : List Int, cntS f l ≤ l.length
  | [] => Nat.le_refl _
  | h :: t => by have := cntS_le f t; rw [cntS, List.length_cons]; split <;> omega
theorem hsF_all : ∀ (l : List Int) (p : Int), hsF p l = true → ∀ x ∈ l, p < x ∧ 0 ≤ x ∧ x ≤ 11
  | [], p, _, x, hx => by simp at hx
  | h :: t, p, hh, x, hx => by
    simp only [hsF, Bool.and_eq_true, decide_eq_true_eq] at hh
    rcases List.mem_cons.1 hx with rfl | hx
    · exact ⟨hh.1.2.2, hh.1.1, hh.1.2.1⟩
    · have := hsF_all t h hh.2 x hx
      omega
theorem setS_bd (f : Nat → Bool) : ∀ l : List Int, (∀ x ∈ l, 0 ≤ x ∧ x ≤ 11) → 0 ≤ setS f l ∧ setS f l ≤ 2048 * l.length
  | [], _ => by simp [setS]
  | h :: t, hh => by
    have h1 := setS_bd f t fun x hx => hh x (by simp [hx])
    have h2 := hh h (by simp)
    have h3 := pwN_bd11 h.toNat (by omega)
    rw [setS, List.length_cons]
    split <;> omega
theorem setF2_ins {f : Nat → Bool} {h : Nat} {b : Bool} (hf : f h = false) : ∀ k, h < k → setF2 (fun i => if i = h then b else f i) k = setF2 f k + (if b = true then 2 ^ h else 0)
  | 0, hk => by omega
  | k + 1, hk => by
    rw [setF2, setF2]
    by_cases e : h = k
    · subst e
      rw [setF2_congr (g := f) fun i hi => if_neg (by omega), if_pos rfl, hf]
      simp
    · rw [setF2_ins hf k (by omega), if_neg (show ¬ k = h by omega)]
      omega
theorem cntF_ins {f : Nat → Bool} {h : Nat} {b : Bool} (hf : f h = false) : ∀ k, h < k → cntF (fun i => if i = h then b else f i) k = cntF f k + (if b = true then 1 else 0)
  | 0, hk => by omega
  | k + 1, hk => by
    rw [cntF, cntF]
    by_cases e : h = k
    · subst e
      rw [cntF_congr (g := f) fun i hi => if_neg (by omega), if_pos rfl, hf]
      simp
    · rw [cntF_ins hf k (by omega), if_neg (show ¬ k = h by omega)]
      omega
theorem cons_ins {f : Nat → Bool} {h : Int} {t : List Int} (h0 : 0 ≤ h) (i : Nat) : ((h :: t).contains (i : Int) && f i) = if i = h.toNat then f h.toNat else (t.contains (i : Int) && f i) := by
  by_cases e : i = h.toNat
  · rw [if_pos e, e, show ((h.toNat : Nat) : Int) = h by omega]; simp
  · rw [if_neg e, List.contains_cons, show ((i : Int) == h) = false by simp; omega]; simp
theorem not_tail {f : Nat → Bool} {h : Int} {t : List Int} (h0 : 0 ≤ h) (hh : hsF h t = true) : (t.contains ((h.toNat : Nat) : Int) && f h.toNat) = false := by
  have : ¬ ((h.toNat : Nat) : Int) ∈ t := fun hm => by have := (hsF_all t h hh _ hm).1; omega
  rw [show t.contains ((h.toNat : Nat) : Int) = false by rw [← Bool.not_eq_true, List.contains_iff_mem]; exact this]; rfl
theorem setS_eq (f : Nat → Bool) : ∀ (l : List Int) (p : Int), hsF p l = true → setS f l = (setF2 (fun i => l.contains (i : Int) && f i) 12 : Int)
  | [], p, _ => by
    have : ∀ k, setF2 (fun i => ([] : List Int).contains (i : Int) && f i) k = 0 := fun k => by induction k with
      | zero => rfl
      | succ k ih => rw [setF2, ih]; simp
    rw [this]; rfl
  | h :: t, p, hh => by
    simp only [hsF, Bool.and_eq_true, decide_eq_true_eq] at hh
    rw [setF2_congr fun i _ => cons_ins (f := f) (t := t) hh.1.1 i, setF2_ins (not_tail hh.1.1 hh.2) 12 (by omega), setS, setS_eq f t h hh.2, pwN_nat]
    split <;> simp <;> omega
theorem cntS_eq (f : Nat → Bool) : ∀ (l : List Int) (p : Int), hsF p l = true → cntS f l = cntF (fun i => l.contains (i : Int) && f i) 12
  | [], p, _ => by
    have : ∀ k, cntF (fun i => ([] : List Int).contains (i : Int) && f i) k = 0 := fun k => by induction k with
      | zero => rfl
      | succ k ih => rw [cntF, ih]; simp
    rw [this]; rfl
  | h :: t, p, hh => by
    simp only [hsF, Bool.and_eq_true, decide_eq_true_eq] at hh
    rw [cntF_congr fun i _ => cons_ins (f := f) (t := t) hh.1.1 i, cntF_ins (not_tail hh.1.1 hh.2) 12 (by omega), cntS, cntS_eq f t h hh.2]
    omega
theorem setF2_bit (f : Nat → Bool) : ∀ (k h : Nat), h < k → Nat.testBit (setF2 f k) h = f h
  | 0, h, hk => by omega
  | k + 1, h, hk => by
    have hlt := setF2_lt f k
    rw [setF2]
    by_cases e : h = k
    · subst e
      split
      · rename_i hf
        rw [← setF2_or, Nat.testBit_or, Nat.testBit_lt_two_pow hlt, Nat.testBit_two_pow_self, hf]; rfl
      · rename_i hf
        rw [Nat.add_zero, Nat.testBit_lt_two_pow hlt]
        simpa using hf
    · split
      · rw [← setF2_or, Nat.testBit_or, Nat.testBit_two_pow_of_ne (by omega), Bool.or_false, setF2_bit f k h (by omega)]
      · rw [Nat.add_zero, setF2_bit f k h (by omega)]
theorem bitB_nat (n h : Nat) : bitB (n : Int) h = Nat.testBit n h := by
  unfold bitB
  rw [Nat.testBit_eq_decide_div_mod_eq]
  have : ((n : Int) / 2 ^ h % 2) = ((n / 2 ^ h % 2 : Nat) : Int) := by simp
  rw [this]
  simp only [decide_eq_decide]
  omega
theorem bitB_set (f : Nat → Bool) {h : Nat} (hh : h < 12) : bitB (setF2 f 12 : Int) h = f h := by rw [bitB_nat, setF2_bit f 12 h hh]
theorem bitB_zero (h : Nat) : bitB 0 h = false := by
  have := bitB_nat 0 h
  rw [Nat.zero_testBit] at this
  exact this
theorem cpd_cap (b l d : Int) (q h : Nat) (caps : List Cp) : cpdB caps (h : Int) (expF b d q) (expT b l d q) = caps.any (capIn b l d q h) := by
  unfold cpdB
  congr 1
  funext x
  unfold capIn exB
  rw [Bool.decide_and]
theorem sen_set {b l d m : Int} {hs : List Int} (hc : Cal b l d m hs) (caps : List Cp) (q : Nat) :
    setS (fun h => cpdB caps (h : Int) (expF b d q) (expT b l d q)) hs = (setF2 (seenC b l d hs 0 caps q) 12 : Int) := by
  rw [setS_eq _ hs (-1) hc.ho]
  congr 1
  exact setF2_congr fun i _ => by unfold seenC; rw [bitB_zero, Bool.false_or, cpd_cap]
theorem sen_set' {b l d m : Int} {hs : List Int} (hc : Cal b l d m hs) (caps : List Cp) {q : Int} (h0 : 0 ≤ q) :
    setS (fun h => cpdB caps (h : Int) (expF b d q) (expT b l d q)) hs = (setF2 (seenC b l d hs 0 caps q.toNat) 12 : Int) := by
  have e : ((q.toNat : Nat) : Int) = q := by omega
  rw [← sen_set hc caps q.toNat, e]
theorem sen_nonneg (b l d m hs caps q) : 0 ≤ senL b l d m hs caps q := by
  unfold senL
  split
  · exact Int.natCast_nonneg _
  · exact Int.le_refl _
theorem sen_val {b l d m : Int} {hs : List Int} (hc : Cal b l d m hs) {caps : List Cp} (h : capL caps = 0) {k : Nat} (hk : (k : Int) < cntL b l d) : senL b l d m hs caps k = (setF2 (seenC b l d hs 0 caps k) 12 : Int) :=
  if_pos ⟨hc.chk, h, hc.ask (by omega) hk⟩
theorem tel_many {b l d m : Int} {hs : List Int} (hc : Cal b l d m hs) (bad : Int) (caps : List Cp) (q : Nat) {x : Int} (hx : x = (setF2 (seenC b l d hs 0 caps q) 12 : Int)) :
    cntS (fun h => bitB bad h || bitB x h) hs = cntF (seenC b l d hs bad caps q) 12 := by
  rw [cntS_eq _ hs (-1) hc.ho, hx]
  refine cntF_congr fun i hi => ?_
  rw [bitB_set _ hi]
  unfold seenC
  rw [bitB_zero]
  cases hs.contains (i : Int) <;> simp
theorem knw_many {b l d m : Int} {hs : List Int} (hc : Cal b l d m hs) (bad : Int) : cntS (fun h => bitB bad h || bitB 0 h) hs = knwL b l d hs bad := by
  rw [cntS_eq _ hs (-1) hc.ho]
  refine cntF_congr fun i hi => ?_
  unfold seenC
  rw [bitB_zero]
  simp
theorem knw_le {b l d m : Int} {hs : List Int} (hc : Cal b l d m hs) (bad : Int) : knwL b l d hs bad ≤ hs.length := by
  rw [← knw_many hc]; exact cntS_le _ _
theorem any_take_no {α : Type} {d : α} {p : α → Bool} {l : List α} {k : Nat} (hk : k < l.length) (hc : (l.take k).any p = false) (h : p (l.getD k d) = false) : (l.take (k + 1)).any p = false := by
  rw [take_snoc d l k hk, List.any_append, hc]; simp only [List.any_cons, List.any_nil, h, Bool.or_false]
theorem any_yes {α : Type} {d : α} {p : α → Bool} {l : List α} {k : Nat} (hk : k < l.length) (h : p (l.getD k d) = true) : l.any p = true :=
  List.any_eq_true.2 ⟨_, getD_mem d l k hk, h⟩

theorem lokW_len (b l d m hs held t) : (lokW b l d m hs held t).length ≤ held.length := by
  unfold lokW; split
  · exact List.length_filter_le _ _
  · exact Nat.zero_le _
theorem lokT_len (b l d m hs held t) : (lokT b l d m hs held t).length ≤ held.length := by
  unfold lokT; split
  · exact List.length_filter_le _ _
  · exact Nat.zero_le _
theorem lokR_len (b l d m hs held t) : (lokR b l d m hs held t).length ≤ held.length := by
  unfold lokR; split
  · exact List.length_filter_le _ _
  · exact Nat.zero_le _
/-! ### windows -/
theorem win_in {b l d w : Int} {q : Nat} {j : Nat} (hw : 1 ≤ w) : expF b d q + j * w ≤ min (expT b l d q) 1000000 ↔ (j : Int) < winL b l d w q := by
  unfold winL
  rw [Int.lt_add_one_iff, Int.le_ediv_iff_mul_le (by omega)]
  omega
theorem win_end {len kn mo W : Int} {j : Nat} (hm : 0 ≤ mo) (hj : (j : Int) ≤ W) (hkn : kn ≤ len) (h : (j : Int) = W ∨ len ≤ min len (kn + mo * j)) : min len (kn + mo * j) = kn + min (len - kn) (mo * W) := by
  rcases h with h | h
  · rw [h]; omega
  · have := Int.mul_le_mul_of_nonneg_left hj hm
    omega
theorem mul_next (mo : Int) (j : Nat) : mo * ((j + 1 : Nat) : Int) = mo * j + mo := by
  rw [show ((j + 1 : Nat) : Int) = (j : Int) + 1 by omega, Int.mul_add, Int.mul_one]
theorem mul_next' (w : Int) (j : Nat) : ((j + 1 : Nat) : Int) * w = j * w + w := by
  rw [Int.mul_comm, mul_next, Int.mul_comm]
end Go.Proofs.Ytgljcfnplkcfhaa.S29

namespace Go.Proofs.Ytgljcfnplkcfhaa.S29
open Go Go.Proofs.Ytgljcfnplkcfhaa.Vc Go.Proofs
set_option maxRecDepth 100000
set_option linter.unusedVariables false

def sRWro : List V → Option (Prop × V × List Blk)
  | [.sl false (.cons (.int .i64) (.cons (.int .i64) .nil)) a] => some (a.length ≤ 2000000, .int .i64 (capL a), [])
  | _ => none
set_option maxHeartbeats 1000000 in
theorem bRWro (a : List (Int × (Int × Unit))) (hp0 : a.length ≤ 2000000) : bodyP (En CSan tys [] QAt) Try.f82 [.k] [.sl false (.cons (.int .i64) (.cons (.int .i64) .nil)) a] (.int .i64 (capL a)) [] := by
  refine ⟨fun h0 => ?_, fun h0 => ?_⟩
  · replace h0 : 500 < (a.length : Int) := h0
    first | have e := all_bad (d := (0, (0, ()))) (by omega) hc1_1 (capB_no (by omega)) | have e := all_end (by omega) hc1_1 | skip
    refine ⟨rfl, rfl, ?_, rfl⟩
    unfold capL
    repeat' split
    all_goals first | rfl | omega | (exfalso; simp_all; done)
  · replace h0 : ¬ (500 < (a.length : Int)) := h0
    refine ⟨0, [(0, .k), (3, .k)], fun n vs H => ∃ (k : Nat), k ≤ a.length ∧ (a.drop k).all capB = a.all capB ∧ n = a.length - k ∧ vs = [.sl false (.cons (.int .i64) (.cons (.int .i64) .nil)) a, .int .i64 (k : Int)] ∧ H = [], ⟨rfl, a.length, 0, by omega, rfl, by omega, rfl, rfl⟩, ?_⟩
    rintro n vs H ⟨k, hc1_0, hc1_1, rfl, rfl, rfl⟩
    refine ⟨fun h1 => ?_, fun h1 => ?_⟩
    · replace h1 : (k : Int) < (a.length : Int) := h1
      refine ⟨⟨by show (0 : Int) ≤ (k : Int); omega, by show (k : Int) < (a.length : Int); omega⟩, fun h2 => ?_, fun h2 => ?_⟩
      · replace h2 : ¬ (((a.getD k (0, (0, ()))).1) < 0) := h2
        refine ⟨⟨by show (0 : Int) ≤ (k : Int); omega, by show (k : Int) < (a.length : Int); omega⟩, fun h3 => ?_, fun h3 => ?_⟩
        · replace h3 : ¬ (11 < ((a.getD k (0, (0, ()))).1)) := h3
          refine ⟨⟨by show (0 : Int) ≤ (k : Int); omega, by show (k : Int) < (a.length : Int); omega⟩, fun h4 => ?_, fun h4 => ?_⟩
          · replace h4 : ¬ ((((a.getD k (0, (0, ()))).2).1) < 0) := h4
            refine ⟨⟨by show (0 : Int) ≤ (k : Int); omega, by show (k : Int) < (a.length : Int); omega⟩, fun h5 => ?_, fun h5 => ?_⟩
            · replace h5 : 1000000 < (((a.getD k (0, (0, ()))).2).1) := h5
              first | have e := all_bad (d := (0, (0, ()))) (by omega) hc1_1 (capB_no (by omega)) | have e := all_end (by omega) hc1_1 | skip
              refine ⟨rfl, rfl, ?_, rfl⟩
              unfold capL
              repeat' split
              all_goals first | rfl | omega | (exfalso; simp_all; done)
            · replace h5 : ¬ (1000000 < (((a.getD k (0, (0, ()))).2).1)) := h5
              refine ⟨⟨by show (-9223372036854775808 : Int) ≤ ((k : Int) + 1); omega, by show ((k : Int) + 1) ≤ (9223372036854775807 : Int); omega⟩, ?_⟩
              exact ⟨rfl, a.length - (k + 1), by omega, k + 1, by omega, all_next (d := (0, (0, ()))) (by omega) hc1_1 (capB_yes (by omega)), rfl, rfl, rfl⟩
          · replace h4 : (((a.getD k (0, (0, ()))).2).1) < 0 := h4
            first | have e := all_bad (d := (0, (0, ()))) (by omega) hc1_1 (capB_no (by omega)) | have e := all_end (by omega) hc1_1 | skip
            refine ⟨rfl, rfl, ?_, rfl⟩
            unfold capL
            repeat' split
            all_goals first | rfl | omega | (exfalso; simp_all; done)
        · replace h3 : 11 < ((a.getD k (0, (0, ()))).1) := h3
          first | have e := all_bad (d := (0, (0, ()))) (by omega) hc1_1 (capB_no (by omega)) | have e := all_end (by omega) hc1_1 | skip
          refine ⟨rfl, rfl, ?_, rfl⟩
          unfold capL
          repeat' split
          all_goals first | rfl | omega | (exfalso; simp_all; done)
      · replace h2 : ((a.getD k (0, (0, ()))).1) < 0 := h2
        first | have e := all_bad (d := (0, (0, ()))) (by omega) hc1_1 (capB_no (by omega)) | have e := all_end (by omega) hc1_1 | skip
        refine ⟨rfl, rfl, ?_, rfl⟩
        unfold capL
        repeat' split
        all_goals first | rfl | omega | (exfalso; simp_all; done)
    · replace h1 : ¬ ((k : Int) < (a.length : Int)) := h1
      first | have e := all_bad (d := (0, (0, ()))) (by omega) hc1_1 (capB_no (by omega)) | have e := all_end (by omega) hc1_1 | skip
      refine ⟨rfl, rfl, ?_, rfl⟩
      unfold capL
      repeat' split
      all_goals first | rfl | omega | (exfalso; simp_all; done)
def CRWro : List (Nat × Con) := (82, pureC [.v (.sl (.cons (.int .i64) (.cons (.int .i64) .nil)))] sRWro) :: CSan
theorem kRWro : Known Try.prog (En CRWro tys [] QAt) := kSan.add Try.func82 Try.call82 [.k] fun ds p v bs h hp => by
  unfold sRWro at h
  split at h <;> simp only [Option.some.injEq, Prod.mk.injEq, reduceCtorEq] at h
  obtain ⟨rfl, rfl, rfl⟩ := h
  exact bRWro _ hp
def sRCpd : List V → Option (Prop × V × List Blk)
  | [.sl false (.cons (.int .i64) (.cons (.int .i64) .nil)) a, .int .i64 h, .int .i64 f, .int .i64 t] => some (a.length ≤ 2000000, .b (cpdB a h f t = true), [])
  | _ => none
set_option maxHeartbeats 1000000 in
theorem bRCpd (a : List (Int × (Int × Unit))) (h : Int) (f : Int) (t : Int) (hp0 : a.length ≤ 2000000) : bodyP (En CRWro tys [] QAt) Try.f83 [.k] [.sl false (.cons (.int .i64) (.cons (.int .i64) .nil)) a, .int .i64 h, .int .i64 f, .int .i64 t] (.b (cpdB a h f t = true)) [] := by
  refine ⟨0, [(0, .k), (1, .k), (2, .k), (3, .k), (9, .k)], fun n vs H => ∃ (k : Nat), k ≤ a.length ∧ ((a.take k).any (fun x => decide (x.1 = h ∧ f ≤ x.2.1 ∧ x.2.1 ≤ t)) = false) ∧ n = a.length - k ∧ vs = [.sl false (.cons (.int .i64) (.cons (.int .i64) .nil)) a, .int .i64 h, .int .i64 f, .int .i64 t, .int .i64 (k : Int)] ∧ H = [], ⟨rfl, a.length, 0, by omega, rfl, by omega, rfl, rfl⟩, ?_⟩
  rintro n vs H ⟨k, hc1_0, hc1_1, rfl, rfl, rfl⟩
  refine ⟨fun h0 => ?_, fun h0 => ?_⟩
  · replace h0 : (k : Int) < (a.length : Int) := h0
    refine ⟨⟨by show (0 : Int) ≤ (k : Int); omega, by show (k : Int) < (a.length : Int); omega⟩, fun h1 => ?_, fun h1 => ?_⟩
    · replace h1 : ((a.getD k (0, (0, ()))).1) = h := h1
      refine ⟨⟨by show (0 : Int) ≤ (k : Int); omega, by show (k : Int) < (a.length : Int); omega⟩, fun h2 => ?_, fun h2 => ?_⟩
      · replace h2 : f ≤ (((a.getD k (0, (0, ()))).2).1) := h2
        refine ⟨⟨by show (0 : Int) ≤ (k : Int); omega, by show (k : Int) < (a.length : Int); omega⟩, fun h3 => ?_, fun h3 => ?_⟩
        · replace h3 : (((a.getD k (0, (0, ()))).2).1) ≤ t := h3
          have e : cpdB a h f t = true := any_yes (d := (0, (0, ()))) (k := k) (by omega) (decide_eq_true ⟨by omega, by omega, by omega⟩)
          rw [e]
          exact ⟨rfl, rfl, rfl, rfl⟩
        · replace h3 : ¬ ((((a.getD k (0, (0, ()))).2).1) ≤ t) := h3
          refine ⟨⟨by show (-9223372036854775808 : Int) ≤ ((k : Int) + 1); omega, by show ((k : Int) + 1) ≤ (9223372036854775807 : Int); omega⟩, ?_⟩
          exact ⟨rfl, a.length - (k + 1), by omega, k + 1, by omega, any_take_no (d := (0, (0, ()))) (by omega) hc1_1 (decide_eq_false (by omega)), rfl, rfl, rfl⟩
      · replace h2 : ¬ (f ≤ (((a.getD k (0, (0, ()))).2).1)) := h2
        refine ⟨⟨by show (-9223372036854775808 : Int) ≤ ((k : Int) + 1); omega, by show ((k : Int) + 1) ≤ (9223372036854775807 : Int); omega⟩, ?_⟩
        exact ⟨rfl, a.length - (k + 1), by omega, k + 1, by omega, any_take_no (d := (0, (0, ()))) (by omega) hc1_1 (decide_eq_false (by omega)), rfl, rfl, rfl⟩
    · replace h1 : ¬ (((a.getD k (0, (0, ()))).1) = h) := h1
      refine ⟨⟨by show (-9223372036854775808 : Int) ≤ ((k : Int) + 1); omega, by show ((k : Int) + 1) ≤ (9223372036854775807 : Int); omega⟩, ?_⟩
      exact ⟨rfl, a.length - (k + 1), by omega, k + 1, by omega, any_take_no (d := (0, (0, ()))) (by omega) hc1_1 (decide_eq_false (by omega)), rfl, rfl, rfl⟩
  · replace h0 : ¬ ((k : Int) < (a.length : Int)) := h0
    have e : cpdB a h f t = false := by rw [← hc1_1, List.take_of_length_le (by omega)]; rfl
    rw [e]
    exact ⟨rfl, rfl, rfl, rfl⟩
def CRCpd : List (Nat × Con) := (83, pureC [.v (.sl (.cons (.int .i64) (.cons (.int .i64) .nil))), .v (.int .i64), .v (.int .i64), .v (.int .i64)] sRCpd) :: CRWro
theorem kRCpd : Known Try.prog (En CRCpd tys [] QAt) := kRWro.add Try.func83 Try.call83 [.k] fun ds p v bs h hp => by
  unfold sRCpd at h
  split at h <;> simp only [Option.some.injEq, Prod.mk.injEq, reduceCtorEq] at h
  obtain ⟨rfl, rfl, rfl⟩ := h
  exact bRCpd _ _ _ _ hp
def sRBit : List V → Option (Prop × V × List Blk)
  | [.int .i64 h] => some (0 ≤ h ∧ h ≤ 11, .int .i64 (pwN h.toNat), [])
  | _ => none
set_option maxHeartbeats 1000000 in
theorem bRBit (h : Int) (hp0 : 0 ≤ h) (hp1 : h ≤ 11) : bodyP (En CRCpd tys [] QAt) Try.f84 [.k] [.int .i64 h] (.int .i64 (pwN h.toNat)) [] := by
  refine ⟨0, [(0, .k), (3, .k), (4, .k)], fun n vs H => ∃ (k : Nat), k ≤ h.toNat ∧ n = h.toNat - k ∧ vs = [.int .i64 h, .int .i64 (pwN k), .int .i64 (k : Int)] ∧ H = [], ⟨rfl, h.toNat, 0, by omega, by omega, rfl, rfl⟩, ?_⟩
  rintro n vs H ⟨k, hc1_0, rfl, rfl, rfl⟩
  have hpw := pwN_bd k (by omega)
  refine ⟨fun h0 => ?_, fun h0 => ?_⟩
  · replace h0 : (k : Int) < h := h0
    refine ⟨⟨by show (-9223372036854775808 : Int) ≤ (2 * (pwN k)); omega, by show (2 * (pwN k)) ≤ (9223372036854775807 : Int); omega⟩, ⟨by show (-9223372036854775808 : Int) ≤ ((k : Int) + 1); omega, by show ((k : Int) + 1) ≤ (9223372036854775807 : Int); omega⟩, ?_⟩
    exact ⟨rfl, h.toNat - (k + 1), by omega, k + 1, by omega, rfl, by rw [← pwN_succ]; rfl, rfl⟩
  · replace h0 : ¬ ((k : Int) < h) := h0
    obtain rfl : k = h.toNat := by omega
    exact ⟨rfl, rfl, rfl, rfl⟩
def CRBit : List (Nat × Con) := (84, pureC [.v (.int .i64)] sRBit) :: CRCpd
theorem kRBit : Known Try.prog (En CRBit tys [] QAt) := kRCpd.add Try.func84 Try.call84 [.k] fun ds p v bs h hp => by
  unfold sRBit at h
  split at h <;> simp only [Option.some.injEq, Prod.mk.injEq, reduceCtorEq] at h
  obtain ⟨rfl, rfl, rfl⟩ := h
  exact bRBit _ hp.1 hp.2
def sRSeen : List V → Option (Prop × V × List Blk)
  | [.agg [.int .i64 b, .int .i64 l, .int .i64 d, .int .i64 m, .sl false (.int .i64) hs], .sl false (.cons (.int .i64) (.cons (.int .i64) .nil)) a, .int .i64 q] => some (hs.length ≤ 2000000 ∧ a.length ≤ 2000000, .agg [.int .i64 (senL b l d m hs a q), .int .i64 (senE b l d m hs a q)], [])
  | _ => none
set_option maxHeartbeats 1000000 in
theorem bRSeen (b : Int) (l : Int) (d : Int) (m : Int) (hs : List Int) (a : List (Int × (Int × Unit))) (q : Int) (hp0 : hs.length ≤ 2000000) (hp1 : a.length ≤ 2000000) : bodyP (En CRBit tys [] QAt) Try.f32 [.k, .k] [.agg [.int .i64 b, .int .i64 l, .int .i64 d, .int .i64 m, .sl false (.int .i64) hs], .sl false (.cons (.int .i64) (.cons (.int .i64) .nil)) a, .int .i64 q] (.agg [.int .i64 (senL b l d m hs a q), .int .i64 (senE b l d m hs a q)]) [] := by
  refine ⟨rfl, rfl, rfl, rfl, by show hs.length ≤ 2000000; first | omega | assumption, fun h0 => ?_, fun h0 => ?_⟩
  · replace h0 : (chkL b l d m hs) = 0 := h0
    refine ⟨by show a.length ≤ 2000000; first | omega | assumption, fun h1 => ?_, fun h1 => ?_⟩
    · replace h1 : (capL a) ≠ 0 := h1
      refine ⟨⟨rfl, rfl, rfl, Nat.le_of_ble_eq_true rfl⟩, ?_⟩
      rw [show senL b l d m hs a q = 0 from if_neg (fun h => h1 h.2.1), show senE b l d m hs a q = capL a by unfold senE; rw [if_pos h0, if_neg h1]]
      exact ⟨rfl, rfl, rfl, rfl⟩
    · replace h1 : ¬ ((capL a) ≠ 0) := h1
      refine ⟨rfl, rfl, rfl, rfl, rfl, by show hs.length ≤ 2000000; first | omega | assumption, ⟨rfl, rfl, rfl, Nat.le_of_ble_eq_true rfl⟩, fun h2 => ?_, fun h2 => ?_⟩
      · replace h2 : (askL b l d m hs q) ≠ 0 := h2
        refine ⟨⟨rfl, rfl, rfl, Nat.le_of_ble_eq_true rfl⟩, ?_⟩
        rw [show senL b l d m hs a q = 0 from if_neg (fun h => h2 h.2.2), show senE b l d m hs a q = askL b l d m hs q by unfold senE; rw [if_pos h0, if_pos (Classical.not_not.1 h1)]]
        exact ⟨rfl, rfl, rfl, rfl⟩
      · replace h2 : ¬ ((askL b l d m hs q) ≠ 0) := h2
        obtain ⟨hc, hq0, hq1⟩ := ask0 (Classical.not_not.1 h2)
        obtain ⟨q1, q2, q3, q4, q5, q6, q7, q8, q9, q10, q11⟩ := id hc
        have ea := (Classical.not_not.1 h2)
        refine ⟨3, [(1, .k), (3, .k), (6, .k), (8, .k), (9, .k), (10, .k)], fun n vs H => ∃ (k : Nat), k ≤ hs.length ∧ n = hs.length - k ∧ vs = [.sl false (.cons (.int .i64) (.cons (.int .i64) .nil)) a, .ptr 0 1 0 0, .ptr 1 1 0 0, .ptr 2 1 0 0, .int .i64 (setS (fun h => cpdB a (h : Int) (expF b d q) (expT b l d q)) (hs.take k)), .int .i64 (k : Int)] ∧ H = [.cells [.int .i64 b, .int .i64 l, .int .i64 d, .int .i64 m, .sl false (.int .i64) hs], .cells [.int .i64 0, .int .i64 0], .cells [.int .i64 (if askL b l d m hs q = 0 then expF b d q else 0), .int .i64 (if askL b l d m hs q = 0 then expT b l d q else 0), .int .i64 (askL b l d m hs q)]], ⟨rfl, hs.length, 0, by omega, by omega, rfl, rfl⟩, ?_⟩
        rintro n vs H ⟨k, hc1_0, rfl, rfl, rfl⟩
        refine ⟨fun h3 => ?_, fun h3 => ?_⟩
        · replace h3 : (k : Int) < (hs.length : Int) := h3
          have hkl : k < hs.length := by omega
          obtain ⟨g1, g2⟩ := hsF_at hs _ k q8 hkl
          have hpw := pwN_bd11 (hs.getD k 0).toNat (by omega)
          have hsb := setS_bd (fun h => cpdB a (h : Int) (expF b d q) (expT b l d q)) (hs.take k) (fun x hx => (hsF_all hs _ q8 x (List.mem_of_mem_take hx)).2)
          rw [List.length_take] at hsb
          have e := setS_snoc (fun h => cpdB a (h : Int) (expF b d q) (expT b l d q)) (l := hs) (k := k) hkl
          have eg : (((hs.getD k 0).toNat : Nat) : Int) = hs.getD k 0 := by omega
          refine ⟨by kernel_rfl, ⟨by show (0 : Int) ≤ (k : Int); omega, by show (k : Int) < (hs.length : Int); omega⟩, rfl, rfl, rfl, by show a.length ≤ 2000000; first | omega | assumption, fun h4 => ?_, fun h4 => ?_⟩
          · replace h4 : cpdB a (hs.getD k 0) (if askL b l d m hs q = 0 then expF b d q else 0) (if askL b l d m hs q = 0 then expT b l d q else 0) = true := h4
            rw [if_pos ea, if_pos ea] at h4
            rw [if_pos (by rw [← h4, eg])] at e
            refine ⟨⟨by show (0 : Int) ≤ (k : Int); omega, by show (k : Int) < (hs.length : Int); omega⟩, rfl, ⟨by show 0 ≤ (hs.getD k 0); first | omega | assumption, by show (hs.getD k 0) ≤ 11; first | omega | assumption⟩, ⟨by show (-9223372036854775808 : Int) ≤ ((setS (fun h => cpdB a (h : Int) (expF b d q) (expT b l d q)) (hs.take k)) + (pwN (hs.getD k 0).toNat)); omega, by show ((setS (fun h => cpdB a (h : Int) (expF b d q) (expT b l d q)) (hs.take k)) + (pwN (hs.getD k 0).toNat)) ≤ (9223372036854775807 : Int); omega⟩, ⟨by show (-9223372036854775808 : Int) ≤ ((k : Int) + 1); omega, by show ((k : Int) + 1) ≤ (9223372036854775807 : Int); omega⟩, ?_⟩
            exact ⟨rfl, hs.length - (k + 1), by omega, k + 1, by omega, rfl, by rw [e]; rfl, rfl⟩
          · replace h4 : ¬ (cpdB a (hs.getD k 0) (if askL b l d m hs q = 0 then expF b d q else 0) (if askL b l d m hs q = 0 then expT b l d q else 0) = true) := h4
            rw [if_pos ea, if_pos ea] at h4
            rw [if_neg (by intro g; apply h4; rw [← g, eg]), Int.add_zero] at e
            refine ⟨⟨by show (-9223372036854775808 : Int) ≤ ((k : Int) + 1); omega, by show ((k : Int) + 1) ≤ (9223372036854775807 : Int); omega⟩, ?_⟩
            exact ⟨rfl, hs.length - (k + 1), by omega, k + 1, by omega, rfl, by rw [e]; rfl, rfl⟩
        · replace h3 : ¬ ((k : Int) < (hs.length : Int)) := h3
          refine ⟨⟨rfl, rfl, rfl, Nat.le_of_ble_eq_true rfl⟩, ?_⟩
          obtain rfl : k = hs.length := by omega
          rw [show senL b l d m hs a q = setS (fun h => cpdB a (h : Int) (expF b d q) (expT b l d q)) (hs.take hs.length) by unfold senL; rw [if_pos ⟨h0, (Classical.not_not.1 h1), ea⟩, List.take_length, sen_set' hc a hq0], show senE b l d m hs a q = 0 by unfold senE; rw [if_pos h0, if_pos (Classical.not_not.1 h1)]; exact ea]
          exact ⟨rfl, rfl, rfl, rfl⟩
  · replace h0 : ¬ ((chkL b l d m hs) = 0) := h0
    refine ⟨fun h5 => ?_, fun h5 => absurd (show (chkL b l d m hs) ≠ 0 by first | omega | assumption | simp_all) h5⟩
    refine ⟨⟨rfl, rfl, rfl, Nat.le_of_ble_eq_true rfl⟩, ?_⟩
    rw [show senL b l d m hs a q = 0 from if_neg (fun h => h0 h.1), show senE b l d m hs a q = chkL b l d m hs from if_neg h0]
    exact ⟨rfl, rfl, rfl, rfl⟩
def CRSeen : List (Nat × Con) := (32, pureC [.v (.cons (.int .i64) (.cons (.int .i64) (.cons (.int .i64) (.cons (.int .i64) (.cons (.sl (.int .i64)) .nil))))), .v (.sl (.cons (.int .i64) (.cons (.int .i64) .nil))), .v (.int .i64)] sRSeen) :: CRBit
theorem kRSeen : Known Try.prog (En CRSeen tys [] QAt) := kRBit.add Try.func32 Try.call32 [.k, .k] fun ds p v bs h hp => by
  unfold sRSeen at h
  split at h <;> simp only [Option.some.injEq, Prod.mk.injEq, reduceCtorEq] at h
  obtain ⟨rfl, rfl, rfl⟩ := h
  exact bRSeen _ _ _ _ _ _ _ hp.1 hp.2
def sRMany : List V → Option (Prop × V × List Blk)
  | [.agg [.int .i64 b, .int .i64 l, .int .i64 d, .int .i64 m, .sl false (.int .i64) hs], .int .i64 x, .int .i64 y] => some (Cal b l d m hs ∧ 0 ≤ x ∧ 0 ≤ y, .int .i64 (cntS (fun h => bitB x h || bitB y h) hs : Int), [])
  | _ => none
set_option maxHeartbeats 1000000 in
theorem bRMany (b : Int) (l : Int) (d : Int) (m : Int) (hs : List Int) (x : Int) (y : Int) (hp0 : Cal b l d m hs) (hp1 : 0 ≤ x) (hp2 : 0 ≤ y) : bodyP (En CRSeen tys [] QAt) Try.f87 [.k] [.agg [.int .i64 b, .int .i64 l, .int .i64 d, .int .i64 m, .sl false (.int .i64) hs], .int .i64 x, .int .i64 y] (.int .i64 (cntS (fun h => bitB x h || bitB y h) hs : Int)) [] := by
  obtain ⟨q1, q2, q3, q4, q5, q6, q7, q8, q9, q10, q11⟩ := id hp0
  refine ⟨1, [(1, .k), (2, .k), (3, .k), (7, .k), (8, .k)], fun n vs H => ∃ (k : Nat), k ≤ hs.length ∧ n = hs.length - k ∧ vs = [.int .i64 x, .int .i64 y, .ptr 0 1 0 0, .int .i64 (cntS (fun h => bitB x h || bitB y h) (hs.take k) : Int), .int .i64 (k : Int)] ∧ H = [.cells [.int .i64 b, .int .i64 l, .int .i64 d, .int .i64 m, .sl false (.int .i64) hs]], ⟨rfl, hs.length, 0, by omega, by omega, rfl, rfl⟩, ?_⟩
  rintro n vs H ⟨k, hc1_0, rfl, rfl, rfl⟩
  refine ⟨fun h0 => ?_, fun h0 => ?_⟩
  · replace h0 : (k : Int) < (hs.length : Int) := h0
    have hkl : k < hs.length := by omega
    obtain ⟨g1, g2⟩ := hsF_at hs _ k q8 hkl
    have hle := cntS_le (fun h => bitB x h || bitB y h) (hs.take k)
    rw [List.length_take] at hle
    have e := cntS_snoc (fun h => bitB x h || bitB y h) (l := hs) (k := k) hkl
    refine ⟨⟨by show (0 : Int) ≤ (k : Int); omega, by show (k : Int) < (hs.length : Int); omega⟩, rfl, rfl, ⟨by show 0 ≤ x; first | omega | assumption, by show 0 ≤ (hs.getD k 0); first | omega | assumption, by show (hs.getD k 0) ≤ 64; first | omega | assumption⟩, ⟨by show (0 : Int) ≤ (k : Int); omega, by show (k : Int) < (hs.length : Int); omega⟩, rfl, rfl, ⟨by show 0 ≤ y; first | omega | assumption, by show 0 ≤ (hs.getD k 0); first | omega | assumption, by show (hs.getD k 0) ≤ 64; first | omega | assumption⟩, fun h1 => ?_, fun h1 => ?_⟩
    · replace h1 : ¬ (bitB x (hs.getD k 0).toNat = true) := h1
      refine ⟨fun h2 => ?_, fun h2 => ?_⟩
      · replace h2 : bitB y (hs.getD k 0).toNat = true := h2
        refine ⟨⟨by show (-9223372036854775808 : Int) ≤ ((cntS (fun h => bitB x h || bitB y h) (hs.take k) : Int) + 1); omega, by show ((cntS (fun h => bitB x h || bitB y h) (hs.take k) : Int) + 1) ≤ (9223372036854775807 : Int); omega⟩, ⟨by show (-9223372036854775808 : Int) ≤ ((k : Int) + 1); omega, by show ((k : Int) + 1) ≤ (9223372036854775807 : Int); omega⟩, ?_⟩
        first | rw [if_pos (by rw [h1]; rfl)] at e | rw [if_pos (by rw [h2, Bool.or_true])] at e | (rw [Bool.not_eq_true] at h1 h2; rw [h1, h2, if_neg (by decide)] at e)
        exact ⟨rfl, hs.length - (k + 1), by omega, k + 1, by omega, rfl, by rw [e]; rfl, rfl⟩
      · replace h2 : ¬ (bitB y (hs.getD k 0).toNat = true) := h2
        refine ⟨⟨by show (-9223372036854775808 : Int) ≤ ((k : Int) + 1); omega, by show ((k : Int) + 1) ≤ (9223372036854775807 : Int); omega⟩, ?_⟩
        first | rw [if_pos (by rw [h1]; rfl)] at e | rw [if_pos (by rw [h2, Bool.or_true])] at e | (rw [Bool.not_eq_true] at h1 h2; rw [h1, h2, if_neg (by decide)] at e)
        exact ⟨rfl, hs.length - (k + 1), by omega, k + 1, by omega, rfl, by rw [e]; rfl, rfl⟩
    · replace h1 : bitB x (hs.getD k 0).toNat = true := h1
      refine ⟨⟨by show (-9223372036854775808 : Int) ≤ ((cntS (fun h => bitB x h || bitB y h) (hs.take k) : Int) + 1); omega, by show ((cntS (fun h => bitB x h || bitB y h) (hs.take k) : Int) + 1) ≤ (9223372036854775807 : Int); omega⟩, ⟨by show (-9223372036854775808 : Int) ≤ ((k : Int) + 1); omega, by show ((k : Int) + 1) ≤ (9223372036854775807 : Int); omega⟩, ?_⟩
      first | rw [if_pos (by rw [h1]; rfl)] at e | rw [if_pos (by rw [h2, Bool.or_true])] at e | (rw [Bool.not_eq_true] at h1 h2; rw [h1, h2, if_neg (by decide)] at e)
      exact ⟨rfl, hs.length - (k + 1), by omega, k + 1, by omega, rfl, by rw [e]; rfl, rfl⟩
  · replace h0 : ¬ ((k : Int) < (hs.length : Int)) := h0
    obtain rfl : k = hs.length := by omega
    rw [List.take_length]
    exact ⟨rfl, rfl, rfl, rfl⟩
def CRMany : List (Nat × Con) := (87, pureC [.v (.cons (.int .i64) (.cons (.int .i64) (.cons (.int .i64) (.cons (.int .i64) (.cons (.sl (.int .i64)) .nil))))), .v (.int .i64), .v (.int .i64)] sRMany) :: CRSeen
theorem kRMany : Known Try.prog (En CRMany tys [] QAt) := kRSeen.add Try.func87 Try.call87 [.k] fun ds p v bs h hp => by
  unfold sRMany at h
  split at h <;> simp only [Option.some.injEq, Prod.mk.injEq, reduceCtorEq] at h
  obtain ⟨rfl, rfl, rfl⟩ := h
  exact bRMany _ _ _ _ _ _ _ hp.1 hp.2.1 hp.2.2
def sRTel : List V → Option (Prop × V × List Blk)
  | [.agg [.int .i64 b, .int .i64 l, .int .i64 d, .int .i64 m, .sl false (.int .i64) hs], .int .i64 bad, .sl false (.cons (.int .i64) (.cons (.int .i64) .nil)) a] => some (hs.length ≤ 2000000 ∧ a.length ≤ 2000000, .agg [.own (.int .i64) 0, .int .i64 (redL b l d m hs bad a)], [.row true (.int .i64) (telL b l d m hs bad a)])
  | _ => none
set_option maxHeartbeats 1000000 in
theorem bRTel (b : Int) (l : Int) (d : Int) (m : Int) (hs : List Int) (bad : Int) (a : List (Int × (Int × Unit))) (hp0 : hs.length ≤ 2000000) (hp1 : a.length ≤ 2000000) : bodyP (En CRMany tys [] QAt) Try.f34 [.o (.int .i64), .k] [.agg [.int .i64 b, .int .i64 l, .int .i64 d, .int .i64 m, .sl false (.int .i64) hs], .int .i64 bad, .sl false (.cons (.int .i64) (.cons (.int .i64) .nil)) a] (.agg [.own (.int .i64) 0, .int .i64 (redL b l d m hs bad a)]) [.row true (.int .i64) (telL b l d m hs bad a)] := by
  refine ⟨rfl, rfl, rfl, rfl, by show hs.length ≤ 2000000; first | omega | assumption, fun h0 => ?_, fun h0 => ?_⟩
  · replace h0 : (chkL b l d m hs) ≠ 0 := h0
    refine ⟨⟨rfl, rfl, rfl, Nat.le_of_ble_eq_true rfl⟩, ?_⟩
    have e : redL b l d m hs bad a = chkL b l d m hs := if_neg h0
    rw [show telL b l d m hs bad a = [] from if_neg (by rw [e]; exact h0), e]
    exact ⟨rfl, rfl, rfl, rfl⟩
  · replace h0 : ¬ ((chkL b l d m hs) ≠ 0) := h0
    refine ⟨fun h1 => ?_, fun h1 => ?_⟩
    · replace h1 : ¬ (bad < 0) := h1
      refine ⟨fun h2 => ?_, fun h2 => ?_⟩
      · replace h2 : 4095 < bad := h2
        refine ⟨⟨rfl, rfl, rfl, Nat.le_of_ble_eq_true rfl⟩, ?_⟩
        have e : redL b l d m hs bad a = 1 := by unfold redL; rw [if_pos (Classical.not_not.1 h0), if_neg (by omega)]
        rw [show telL b l d m hs bad a = [] from if_neg (by rw [e]; decide), e]
        exact ⟨rfl, rfl, rfl, rfl⟩
      · replace h2 : ¬ (4095 < bad) := h2
        refine ⟨by show a.length ≤ 2000000; first | omega | assumption, fun h3 => ?_, fun h3 => ?_⟩
        · replace h3 : (capL a) ≠ 0 := h3
          refine ⟨⟨rfl, rfl, rfl, Nat.le_of_ble_eq_true rfl⟩, ?_⟩
          have e : redL b l d m hs bad a = capL a := by unfold redL; rw [if_pos (Classical.not_not.1 h0), if_pos ⟨by omega, by omega⟩]
          rw [show telL b l d m hs bad a = [] from if_neg (by rw [e]; exact h3), e]
          exact ⟨rfl, rfl, rfl, rfl⟩
        · replace h3 : ¬ ((capL a) ≠ 0) := h3
          have hr : redL b l d m hs bad a = 0 := by unfold redL; rw [if_pos (Classical.not_not.1 h0), if_pos ⟨by omega, by omega⟩]; exact (Classical.not_not.1 h3)
          obtain ⟨hc, hb0, hb1, hca1, hca2⟩ := red0 hr
          obtain ⟨q1, q2, q3, q4, q5, q6, q7, q8, q9, q10, q11⟩ := id hc
          obtain ⟨N, hN⟩ : ∃ N : Nat, cntL b l d = (N : Int) := ⟨(cntL b l d).toNat, by omega⟩
          refine ⟨rfl, rfl, rfl, rfl, ⟨by show 0 ≤ b; first | omega | assumption, by show b ≤ l; first | omega | assumption, by show l ≤ 1000000; first | omega | assumption, by show 1 ≤ d; first | omega | assumption⟩, 2, [(1, .k), (2, .k), (3, .k), (6, .k), (8, .o (.int .i64)), (9, .k), (10, .k)], fun n vs H => ∃ (k : Nat), k ≤ N ∧ n = N - k ∧ vs = [.int .i64 bad, .sl false (.cons (.int .i64) (.cons (.int .i64) .nil)) a, .ptr 0 1 0 0, .ptr 1 1 0 0, .own (.int .i64) 2, .int .i64 (cntL b l d), .int .i64 (k : Int)] ∧ H = [.cells [.int .i64 b, .int .i64 l, .int .i64 d, .int .i64 m, .sl false (.int .i64) hs], .cells [.nils, .int .i64 0], .row true (.int .i64) (telG b l d m hs bad a k)], ⟨rfl, N, 0, by omega, by omega, rfl, rfl⟩, ?_⟩
          rintro n vs H ⟨k, hc1_0, rfl, rfl, rfl⟩
          refine ⟨fun h4 => ?_, fun h4 => ?_⟩
          · replace h4 : (k : Int) < (cntL b l d) := h4
            have htl := telG_len b l d m hs bad a k
            have hsv := sen_val hc (Classical.not_not.1 h3) (k := k) (by omega)
            have hmn := tel_many hc bad a k hsv
            refine ⟨rfl, rfl, rfl, rfl, rfl, ⟨by show hs.length ≤ 2000000; first | omega | assumption, by show a.length ≤ 2000000; first | omega | assumption⟩, ⟨rfl, rfl, rfl, Nat.le_of_ble_eq_true rfl⟩, rfl, rfl, rfl, rfl, rfl, rfl, ⟨by exact hc, by show 0 ≤ bad; first | omega | assumption, by exact sen_nonneg ..⟩, fun h5 => ?_, fun h5 => ?_⟩
            · replace h5 : m ≤ (cntS (fun h => bitB bad h || bitB (senL b l d m hs a (k : Int)) h) hs : Int) := h5
              rw [hmn] at h5
              have tp : telP b l d m hs bad a k = true := decide_eq_true h5
              refine ⟨rfl, ⟨rfl, rfl⟩, by show (telG b l d m hs bad a k).length + ([(k : Int)] : List Int).length ≤ 1000000000; simp only [List.length_cons, List.length_nil]; omega, ⟨by show (-9223372036854775808 : Int) ≤ ((k : Int) + 1); omega, by show ((k : Int) + 1) ≤ (9223372036854775807 : Int); omega⟩, ?_⟩
              first | exact ⟨rfl, N - (k + 1), by omega, k + 1, by omega, rfl, rfl, by rw [telG_succ, if_pos tp]; rfl⟩ | exact ⟨rfl, N - (k + 1), by omega, k + 1, by omega, rfl, rfl, by rw [telG_succ, if_neg tp, List.append_nil]; rfl⟩
            · replace h5 : ¬ (m ≤ (cntS (fun h => bitB bad h || bitB (senL b l d m hs a (k : Int)) h) hs : Int)) := h5
              rw [hmn] at h5
              have tp : ¬ telP b l d m hs bad a k = true := by unfold telP; rw [decide_eq_true_eq]; exact h5
              refine ⟨⟨by show (-9223372036854775808 : Int) ≤ ((k : Int) + 1); omega, by show ((k : Int) + 1) ≤ (9223372036854775807 : Int); omega⟩, ?_⟩
              first | exact ⟨rfl, N - (k + 1), by omega, k + 1, by omega, rfl, rfl, by rw [telG_succ, if_pos tp]; rfl⟩ | exact ⟨rfl, N - (k + 1), by omega, k + 1, by omega, rfl, rfl, by rw [telG_succ, if_neg tp, List.append_nil]; rfl⟩
          · replace h4 : ¬ ((k : Int) < (cntL b l d)) := h4
            refine ⟨⟨rfl, rfl, rfl, Nat.le_of_ble_eq_true rfl⟩, ?_⟩
            rw [show telL b l d m hs bad a = telG b l d m hs bad a k by rw [telL, if_pos hr, show (cntL b l d).toNat = k by omega], hr]
            exact ⟨rfl, rfl, rfl, rfl⟩
    · replace h1 : bad < 0 := h1
      refine ⟨⟨rfl, rfl, rfl, Nat.le_of_ble_eq_true rfl⟩, ?_⟩
      have e : redL b l d m hs bad a = 1 := by unfold redL; rw [if_pos (Classical.not_not.1 h0), if_neg (by omega)]
      rw [show telL b l d m hs bad a = [] from if_neg (by rw [e]; decide), e]
      exact ⟨rfl, rfl, rfl, rfl⟩
def CRTel : List (Nat × Con) := (34, pureC [.v (.cons (.int .i64) (.cons (.int .i64) (.cons (.int .i64) (.cons (.int .i64) (.cons (.sl (.int .i64)) .nil))))), .v (.int .i64), .v (.sl (.cons (.int .i64) (.cons (.int .i64) .nil)))] sRTel) :: CRMany
theorem kRTel : Known Try.prog (En CRTel tys [] QAt) := kRMany.add Try.func34 Try.call34 [.o (.int .i64), .k] fun ds p v bs h hp => by
  unfold sRTel at h
  split at h <;> simp only [Option.some.injEq, Prod.mk.injEq, reduceCtorEq] at h
  obtain ⟨rfl, rfl, rfl⟩ := h
  exact bRTel _ _ _ _ _ _ _ hp.1 hp.2
end Go.Proofs.Ytgljcfnplkcfhaa.S29

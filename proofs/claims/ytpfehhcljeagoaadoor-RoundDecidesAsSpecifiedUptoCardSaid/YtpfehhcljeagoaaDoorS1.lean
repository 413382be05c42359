/- Texts of this claim: S28.Pa, S28.A0, S28.Pb, S28.A1, S28.Pc, S28.A2. -/
import Derived.Test.YtpfehhcljeagoaaDoorS0
set_option linter.unusedVariables false
set_option linter.unusedSimpArgs false
namespace Go.Proofs.YtpfehhcljeagoaaDoor.S28
open Go

/-! ### strings of bytes -/
def fillF (f : Nat → UInt8) (n k : Nat) : List UInt8 := (List.range n).map fun i => if i < k then f i else 0
theorem fill_len (f : Nat → UInt8) (n k : Nat) : (fillF f n k).length = n := by simp [fillF]
theorem fill_zero (f : Nat → UInt8) (n : Nat) : fillF f n 0 = List.replicate n 0 := by
 apply List.ext_getElem
 ·simp [fillF]
 ·intro i h1 h2; simp [fillF]
theorem fill_set (f : Nat → UInt8) {n k : Nat} (h : k < n) : (fillF f n k).set k (f k) = fillF f n (k + 1) := by
 apply List.ext_getElem
 ·simp [fillF]
 ·intro i h1 h2
  rw [List.getElem_set]
  simp only [fillF, List.getElem_map, List.getElem_range]
  by_cases e : k = i
  ·subst e; simp
  ·rw [if_neg e]
   by_cases g : i < k
   ·rw [if_pos g, if_pos (by omega)]
   ·rw [if_neg g, if_neg (by omega)]
theorem fill_all (f : Nat → UInt8) (n : Nat) : fillF f n n = (List.range n).map f := by
 apply List.map_congr_left
 intro i hi
 rw [List.mem_range] at hi
 rw [if_pos hi]
def scaleF (c : UInt8) (s : List UInt8) (i : Nat) : UInt8 := mulL c (s.getD i 0)
def scaleB (c : UInt8) (s : List UInt8) : List UInt8 := (List.range s.length).map (scaleF c s)
def sumG (a b : List UInt8) (i : Nat) : UInt8 := if i < b.length then a.getD i 0 ^^^ b.getD i 0 else a.getD i 0
def sumF (a b : List UInt8) : List UInt8 := (List.range a.length).map (sumG a b)
def sumB (a b : List UInt8) : List UInt8 := if a.length < b.length then sumF b a else sumF a b
theorem scale_len (c : UInt8) (s : List UInt8) : (scaleB c s).length = s.length := by simp [scaleB]
theorem sum_len (a b : List UInt8) : (sumB a b).length = max a.length b.length := by
 unfold sumB
 split <;> simp [sumF] <;> omega
end Go.Proofs.YtpfehhcljeagoaaDoor.S28

namespace Go.Proofs.YtpfehhcljeagoaaDoor.S28
open Go Go.Proofs.YtpfehhcljeagoaaDoor.Vc Go.Proofs
set_option maxRecDepth 100000
set_option linter.unusedVariables false

def sGSc : List V → Option (Prop × V × List Blk)
 | [.int .i64 k, .rp false .u8 c 0, .rp false .str s 0] => some (0 ≤ k ∧ k < (s.length : Int), .u8 (scaleF c s k.toNat), [])
 | _ => none
set_option maxHeartbeats 1000000 in
theorem bGSc (k : Int) (c : UInt8) (s : List UInt8) (hp0 : 0 ≤ k) (hp1 : k < (s.length : Int)) : bodyP (En C23 tys G6 []) Tryd.f61 [.k] [.int .i64 k, .rp false .u8 c 0, .rp false .str s 0] (.u8 (scaleF c s k.toNat)) [] := by
 refine ⟨by kernel_rfl, (i0 k (s.length : Int)), trivial, ?_⟩
 exact ⟨rfl, rfl, rfl, rfl⟩
def CGSc : List (Nat × Con) := (61, pureC [.v (.int .i64), .ref .u8, .ref .str] sGSc) :: C23
theorem kGSc : Known Tryd.prog (En CGSc tys G6 []) := k23.add Tryd.func61 Tryd.call61 [.k] fun ds p v bs h hp => by
 unfold sGSc at h
 split at h <;> simp only [Option.some.injEq, Prod.mk.injEq, reduceCtorEq] at h
 obtain ⟨rfl, rfl, rfl⟩ := h
 exact bGSc _ _ _ hp.1 hp.2
def sGSm : List V → Option (Prop × V × List Blk)
 | [.int .i64 k, .rp false .str b 0, .rp false .str a 0] => some (0 ≤ k ∧ k < (a.length : Int), .u8 (sumG a b k.toNat), [])
 | _ => none
set_option maxHeartbeats 1000000 in
theorem bGSm (k : Int) (b : List UInt8) (a : List UInt8) (hp0 : 0 ≤ k) (hp1 : k < (a.length : Int)) : bodyP (En CGSc tys G6 []) Tryd.f66 [.k] [.int .i64 k, .rp false .str b 0, .rp false .str a 0] (.u8 (sumG a b k.toNat)) [] := by
 refine ⟨fun h0 => ?_, fun h0 => ?_⟩
 ·replace h0 : k < (b.length : Int) := h0
  refine ⟨by kernel_rfl, (i0 k (a.length : Int)), (i0 k (b.length : Int)), ?_⟩
  rw [show sumG a b k.toNat = _ from if_pos (by omega)]
  exact ⟨rfl, rfl, rfl, rfl⟩
 ·replace h0 : ¬ (k < (b.length : Int)) := h0
  refine ⟨(i0 k (a.length : Int)), ?_⟩
  rw [show sumG a b k.toNat = _ from if_neg (by omega)]
  exact ⟨rfl, rfl, rfl, rfl⟩
def CGSm : List (Nat × Con) := (66, pureC [.v (.int .i64), .ref .str, .ref .str] sGSm) :: CGSc
theorem kGSm : Known Tryd.prog (En CGSm tys G6 []) := kGSc.add Tryd.func66 Tryd.call66 [.k] fun ds p v bs h hp => by
 unfold sGSm at h
 split at h <;> simp only [Option.some.injEq, Prod.mk.injEq, reduceCtorEq] at h
 obtain ⟨rfl, rfl, rfl⟩ := h
 exact bGSm _ _ _ hp.1 hp.2
set_option maxHeartbeats 1000000 in
theorem bGBu0 (z : Int) (c : UInt8) (s : List UInt8) (hp0 : z = (s.length : Int)) (hp1 : s.length ≤ 1000000000) : bodyP (En CGSm tys G6 []) Tryd.f60 [.k] [.int .i64 z, .fn 61 [.rp false .u8 c 0, .rp false .str s 0]] (.str (scaleB c s)) [] := by
 refine ⟨⟨rfl, by show (0 : Int) ≤ z; omega, by show z ≤ (1000000000 : Int); omega⟩, 0, [(1, .k), (5, .o .u8), (9, .k), (10, .k)], fun nM vs H => ∃ (k : Nat), (k : Int) ≤ z ∧ nM = z.toNat - k ∧ vs = [.fn 61 [.rp false .u8 c 0, .rp false .str s 0], .own .u8 0, .int .i64 z, .int .i64 (k : Int)] ∧ H = [.row true .u8 (fillF (scaleF c s) z.toNat k)], ⟨rfl, z.toNat, 0, by omega, by omega, rfl, by rw [fill_zero]; rfl⟩, ?_⟩
 rintro nM vs H ⟨k, hc1_0, rfl, rfl, rfl⟩
 refine ⟨fun h0 => ?_, fun h0 => ?_⟩
 ·replace h0 : (k : Int) < z := h0
  have hl := fill_len (scaleF c s) z.toNat k
  refine ⟨rfl, ⟨by show 0 ≤ (k : Int); first | omega | assumption, by show (k : Int) < (s.length : Int); first | omega | assumption⟩, (i0 (k : Int) ((fillF (scaleF c s) z.toNat k).length : Int)), ⟨rfl, rfl⟩, (r64 ((k : Int) + 1)), ?_⟩
  exact ⟨rfl, z.toNat - (k + 1), by omega, k + 1, by omega, rfl, rfl, by rw [← fill_set _ (by omega : k < z.toNat)]; rfl⟩
 ·replace h0 : ¬ ((k : Int) < z) := h0
  rw [show k = z.toNat by omega, fill_all, show z.toNat = s.length by omega]
  exact ⟨rfl, rfl, rfl, rfl⟩
set_option maxHeartbeats 1000000 in
theorem bGBu1 (z : Int) (b : List UInt8) (a : List UInt8) (hp0 : z = (a.length : Int)) (hp1 : a.length ≤ 1000000000) : bodyP (En CGSm tys G6 []) Tryd.f60 [.k] [.int .i64 z, .fn 66 [.rp false .str b 0, .rp false .str a 0]] (.str (sumF a b)) [] := by
 refine ⟨⟨rfl, by show (0 : Int) ≤ z; omega, by show z ≤ (1000000000 : Int); omega⟩, 0, [(1, .k), (5, .o .u8), (9, .k), (10, .k)], fun nM vs H => ∃ (k : Nat), (k : Int) ≤ z ∧ nM = z.toNat - k ∧ vs = [.fn 66 [.rp false .str b 0, .rp false .str a 0], .own .u8 0, .int .i64 z, .int .i64 (k : Int)] ∧ H = [.row true .u8 (fillF (sumG a b) z.toNat k)], ⟨rfl, z.toNat, 0, by omega, by omega, rfl, by rw [fill_zero]; rfl⟩, ?_⟩
 rintro nM vs H ⟨k, hc1_0, rfl, rfl, rfl⟩
 refine ⟨fun h0 => ?_, fun h0 => ?_⟩
 ·replace h0 : (k : Int) < z := h0
  have hl := fill_len (sumG a b) z.toNat k
  refine ⟨rfl, ⟨by show 0 ≤ (k : Int); first | omega | assumption, by show (k : Int) < (a.length : Int); first | omega | assumption⟩, (i0 (k : Int) ((fillF (sumG a b) z.toNat k).length : Int)), ⟨rfl, rfl⟩, (r64 ((k : Int) + 1)), ?_⟩
  exact ⟨rfl, z.toNat - (k + 1), by omega, k + 1, by omega, rfl, rfl, by rw [← fill_set _ (by omega : k < z.toNat)]; rfl⟩
 ·replace h0 : ¬ ((k : Int) < z) := h0
  rw [show k = z.toNat by omega, fill_all, show z.toNat = a.length by omega]
  exact ⟨rfl, rfl, rfl, rfl⟩
def sGBu : List V → Option (Prop × V × List Blk)
 | [.int .i64 z, .fn 61 [.rp false .u8 c 0, .rp false .str s 0]] => some (z = (s.length : Int) ∧ s.length ≤ 1000000000, .str (scaleB c s), [])
 | [.int .i64 z, .fn 66 [.rp false .str b 0, .rp false .str a 0]] => some (z = (a.length : Int) ∧ a.length ≤ 1000000000, .str (sumF a b), [])
 | _ => none
def CGBu : List (Nat × Con) := (60, pureC [.v (.int .i64), .fn [(61, [.ref .u8, .ref .str]), (66, [.ref .str, .ref .str])]] sGBu) :: CGSm
theorem kGBu : Known Tryd.prog (En CGBu tys G6 []) := kGSm.add Tryd.func60 Tryd.call60 [.k] fun ds p v bs h hp => by
 unfold sGBu at h
 split at h <;> simp only [Option.some.injEq, Prod.mk.injEq, reduceCtorEq] at h
 ·obtain ⟨rfl, rfl, rfl⟩ := h
  exact bGBu0 _ _ _ hp.1 hp.2
 ·obtain ⟨rfl, rfl, rfl⟩ := h
  exact bGBu1 _ _ _ hp.1 hp.2
def sGScl : List V → Option (Prop × V × List Blk)
 | [.u8 c, .str s] => some (s.length ≤ 1000000000, .str (scaleB c s), [])
 | _ => none
set_option maxHeartbeats 1000000 in
theorem bGScl (c : UInt8) (s : List UInt8) (hp0 : s.length ≤ 1000000000) : bodyP (En CGBu tys G6 []) Tryd.f49 [.k] [.u8 c, .str s] (.str (scaleB c s)) [] := by
 refine ⟨rfl, ⟨by show (s.length : Int) = (s.length : Int); first | omega | assumption, by show s.length ≤ 1000000000; first | omega | assumption⟩, ?_⟩
 exact ⟨rfl, rfl, rfl, rfl⟩
def CGScl : List (Nat × Con) := (49, pureC [.v .u8, .v .str] sGScl) :: CGBu
theorem kGScl : Known Tryd.prog (En CGScl tys G6 []) := kGBu.add Tryd.func49 Tryd.call49 [.k] fun ds p v bs h hp => by
 unfold sGScl at h
 split at h <;> simp only [Option.some.injEq, Prod.mk.injEq, reduceCtorEq] at h
 obtain ⟨rfl, rfl, rfl⟩ := h
 exact bGScl _ _ hp
def sGSum : List V → Option (Prop × V × List Blk)
 | [.str a, .str b] => some (a.length ≤ 1000000000 ∧ b.length ≤ 1000000000, .str (sumB a b), [])
 | _ => none
set_option maxHeartbeats 1000000 in
theorem bGSum (a : List UInt8) (b : List UInt8) (hp0 : a.length ≤ 1000000000) (hp1 : b.length ≤ 1000000000) : bodyP (En CGScl tys G6 []) Tryd.f59 [.k] [.str a, .str b] (.str (sumB a b)) [] := by
 refine ⟨fun h0 => ?_, fun h0 => ?_⟩
 ·replace h0 : (a.length : Int) < (b.length : Int) := h0
  refine ⟨⟨rfl, rfl, rfl⟩, ⟨rfl, rfl, rfl⟩, rfl, ⟨by show (b.length : Int) = (b.length : Int); first | omega | assumption, by show b.length ≤ 1000000000; first | omega | assumption⟩, ?_⟩
  rw [show sumB a b = sumF b a from if_pos (by omega)]
  exact ⟨rfl, rfl, rfl, rfl⟩
 ·replace h0 : ¬ ((a.length : Int) < (b.length : Int)) := h0
  refine ⟨rfl, ⟨by show (a.length : Int) = (a.length : Int); first | omega | assumption, by show a.length ≤ 1000000000; first | omega | assumption⟩, ?_⟩
  rw [show sumB a b = sumF a b from if_neg (by omega)]
  exact ⟨rfl, rfl, rfl, rfl⟩
def CGSum : List (Nat × Con) := (59, pureC [.v .str, .v .str] sGSum) :: CGScl
theorem kGSum : Known Tryd.prog (En CGSum tys G6 []) := kGScl.add Tryd.func59 Tryd.call59 [.k] fun ds p v bs h hp => by
 unfold sGSum at h
 split at h <;> simp only [Option.some.injEq, Prod.mk.injEq, reduceCtorEq] at h
 obtain ⟨rfl, rfl, rfl⟩ := h
 exact bGSum _ _ hp.1 hp.2
end Go.Proofs.YtpfehhcljeagoaaDoor.S28

namespace Go.Proofs.YtpfehhcljeagoaaDoor.S28
open Go

/-! ### lists -/
theorem dropD {α : Type} (d : α) (l : List α) (k : Nat) (h : k < l.length) : l.drop k = l.getD k d :: l.drop (k + 1) := by
 rw [List.drop_eq_getElem_cons h]
 simp [List.getD_eq_getElem?_getD, h]
theorem takeD {α : Type} (d : α) (l : List α) (k : Nat) (h : k < l.length) : l.take (k + 1) = l.take k ++ [l.getD k d] := by
 rw [List.take_succ_eq_append_getElem h]
 simp [List.getD_eq_getElem?_getD, h]
theorem getD_mem {α : Type} (d : α) (l : List α) (k : Nat) (h : k < l.length) : l.getD k d ∈ l := by
 simp [List.getD_eq_getElem?_getD, h]
theorem all_bad {α : Type} {d : α} {p : α → Bool} {l : List α} {k : Nat} (hk : k < l.length) (hc : (l.drop k).all p = l.all p) (h : p (l.getD k d) = false) : l.all p = false := by
 rw [← hc, dropD d l k hk, List.all_cons, h, Bool.false_and]
theorem all_next {α : Type} {d : α} {p : α → Bool} {l : List α} {k : Nat} (hk : k < l.length) (hc : (l.drop k).all p = l.all p) (h : p (l.getD k d) = true) : (l.drop (k + 1)).all p = l.all p := by
 rw [← hc, dropD d l k hk, List.all_cons, h, Bool.true_and]
theorem all_stop {α : Type} {p : α → Bool} {l : List α} {k : Nat} (hk : l.length ≤ k) (hc : (l.drop k).all p = l.all p) : l.all p = true := by
 rw [← hc, List.drop_eq_nil_of_le hk]; rfl
theorem drop_cons {α : Type} {l r : List α} {x d : α} {k : Nat} (h : l.drop k = x :: r) : k < l.length ∧ l.getD k d = x ∧ l.drop (k + 1) = r := by
 have hk : k < l.length := by
  rcases Nat.lt_or_ge k l.length with g | g
  ·exact g
  ·rw [List.drop_eq_nil_of_le g] at h; cases h
 rw [dropD d l k hk] at h
 injection h with h1 h2
 exact ⟨hk, h1, h2⟩
theorem drop_nil {α : Type} {l : List α} {k : Nat} (hk : k ≤ l.length) (h : l.drop k = []) : k = l.length := by
 have := List.drop_eq_nil_iff.1 h; omega

/-! ### rows of strings -/
abbrev Rw := List (List UInt8)
def sumAll (l : Rw) : List UInt8 := (l.drop 1).foldl sumB (l.getD 0 [])
theorem foldl_len {N : Nat} : ∀ (l : Rw) (s : List UInt8), s.length ≤ N → (∀ x ∈ l, x.length ≤ N) → (l.foldl sumB s).length ≤ N
 | [], s, h, _ => h
 | x :: l, s, h, hl => foldl_len l (sumB s x) (by rw [sum_len]; have := hl x (by simp); omega) fun y hy => hl y (by simp [hy])
theorem foldl_snoc (l : Rw) (s : List UInt8) (k : Nat) (h : k < l.length) : (l.take (k + 1)).foldl sumB s = sumB ((l.take k).foldl sumB s) (l.getD k []) := by
 rw [takeD [] l k h, List.foldl_append]; rfl
def atL : Rw → UInt8 → List UInt8
 | [], _ => []
 | [s], _ => s
 | s :: t :: r, x => sumB (scaleB x (atL (t :: r) x)) s
theorem atL_drop (l : Rw) (x : UInt8) (k : Nat) (h : k + 1 < l.length) : atL (l.drop k) x = sumB (scaleB x (atL (l.drop (k + 1)) x)) (l.getD k []) := by
 rw [dropD [] l k (by omega), dropD [] l (k + 1) h]
 rfl
theorem atL_last (l : Rw) (x : UInt8) (h : 1 ≤ l.length) : atL (l.drop (l.length - 1)) x = l.getD (l.length - 1) [] := by
 rw [dropD [] l (l.length - 1) (by omega), show l.length - 1 + 1 = l.length by omega, List.drop_length]; rfl
theorem atL_len {N : Nat} : ∀ (l : Rw) (x : UInt8), (∀ s ∈ l, s.length ≤ N) → (atL l x).length ≤ N
 | [], x, _ => Nat.zero_le _
 | [s], x, h => h s (by simp)
 | s :: t :: r, x, h => by
  rw [atL, sum_len, scale_len]
  have h1 := atL_len (t :: r) x fun y hy => h y (by simp [hy])
  have h2 := h s (by simp)
  omega
theorem drop_all {α : Type} {P : α → Prop} {l : List α} (h : ∀ s ∈ l, P s) (k : Nat) : ∀ s ∈ l.drop k, P s := fun s hs => h s (List.mem_of_mem_drop hs)
theorem two_len {a b : List UInt8} {N : Nat} (h1 : a.length ≤ N) (h2 : b.length ≤ N) : ∀ s ∈ [a, b], s.length ≤ N := fun s hs => by
 rcases List.mem_cons.1 hs with e | hs
 ·rw [e]; exact h1
 ·rw [List.mem_singleton.1 hs]; exact h2
def pt (h : Int) : UInt8 := UInt8.ofNat ((h + 1) % 256).toNat
def n0 (r : Rw) : Nat := (r.getD 0 []).length
def rightB (r : Rw) : Bool := decide (1 ≤ r.length) && decide (r.length < 12) && r.all fun s => decide (s.length = n0 r) && decide (s.length ≤ 4096)
theorem right_ok {r : Rw} (h : rightB r = true) : 1 ≤ r.length ∧ r.length < 12 ∧ (∀ s ∈ r, s.length = n0 r) ∧ n0 r ≤ 4096 := by
 unfold rightB at h
 simp only [Bool.and_eq_true, decide_eq_true_eq, List.all_eq_true] at h
 obtain ⟨⟨h1, h2⟩, h3⟩ := h
 refine ⟨h1, h2, fun s hs => (h3 s hs).1, ?_⟩
 have := h3 _ (getD_mem [] r 0 (by omega))
 exact this.2
theorem right_len {r : Rw} (h : rightB r = true) : ∀ s ∈ r, s.length ≤ 4096 := fun s hs => by
 obtain ⟨_, _, h3, h4⟩ := right_ok h
 rw [h3 s hs]; exact h4
theorem right_no1 {r : Rw} (h : r.length < 1 ∨ 12 ≤ r.length) : rightB r = false := by
 unfold rightB
 rcases h with h | h
 ·rw [decide_eq_false (by omega : ¬ 1 ≤ r.length)]; rfl
 ·rw [decide_eq_false (by omega : ¬ r.length < 12)]; simp
theorem right_all {r : Rw} (h1 : 1 ≤ r.length) (h2 : r.length < 12) : rightB r = r.all fun s => decide (s.length = n0 r) && decide (s.length ≤ 4096) := by
 unfold rightB
 rw [decide_eq_true h1, decide_eq_true h2]; rfl
def alikeP (a b : Rw) : Prop := a.length = b.length ∧ n0 a = n0 b
instance (a b : Rw) : Decidable (alikeP a b) := by unfold alikeP; infer_instance
def agrP (a : Rw) (h : Int) (b : Rw) (o : Int) : Prop := atL a (pt o) = atL b (pt h)
instance (a : Rw) (h : Int) (b : Rw) (o : Int) : Decidable (agrP a h b o) := by unfold agrP; infer_instance
def knw (h : Int) : Prop := 0 ≤ h ∧ h < 12
instance (h : Int) : Decidable (knw h) := by unfold knw; infer_instance
def valE (r : Rw) (h : Int) : Int := if rightB r = true then (if knw h then 0 else 8) else 1
def valS (r : Rw) (h : Int) : List UInt8 := if valE r h = 0 then atL r (pt h) else []
def agE (a : Rw) (h : Int) (b : Rw) (o : Int) : Int := if rightB a = true ∧ rightB b = true ∧ alikeP a b then (if knw h ∧ knw o then 0 else 8) else 1
def agQ (a : Rw) (h : Int) (b : Rw) (o : Int) : Prop := agE a h b o = 0 ∧ agrP a h b o
instance (a : Rw) (h : Int) (b : Rw) (o : Int) : Decidable (agQ a h b o) := by unfold agQ; infer_instance
end Go.Proofs.YtpfehhcljeagoaaDoor.S28

namespace Go.Proofs.YtpfehhcljeagoaaDoor.S28
open Go Go.Proofs.YtpfehhcljeagoaaDoor.Vc Go.Proofs
set_option maxRecDepth 100000
set_option linter.unusedVariables false

def sKnw : List V → Option (Prop × V × List Blk)
 | [.int .i64 h] => some (True, .b (knw h), [])
 | _ => none
set_option maxHeartbeats 1000000 in
theorem bKnw (h : Int)  : bodyP (En CGSum tys G6 []) Tryd.f41 [.k] [.int .i64 h] (.b (knw h)) [] := by
 refine ⟨fun h0 => ?_, fun h0 => ?_⟩
 ·replace h0 : 0 ≤ h := h0
  exact ⟨rfl, rfl, congrArg V.b (propext (by unfold knw; constructor <;> intro g <;> first | omega | exact Bool.noConfusion g | (exfalso; omega))), rfl⟩
 ·replace h0 : ¬ (0 ≤ h) := h0
  exact ⟨rfl, rfl, congrArg V.b (propext (by unfold knw; constructor <;> intro g <;> first | omega | exact Bool.noConfusion g | (exfalso; omega))), rfl⟩
def CKnw : List (Nat × Con) := (41, pureC [.v (.int .i64)] sKnw) :: CGSum
theorem kKnw : Known Tryd.prog (En CKnw tys G6 []) := kGSum.add Tryd.func41 Tryd.call41 [.k] fun ds p v bs h hp => by
 unfold sKnw at h
 split at h <;> simp only [Option.some.injEq, Prod.mk.injEq, reduceCtorEq] at h
 obtain ⟨rfl, rfl, rfl⟩ := h
 exact bKnw _
def sSumA : List V → Option (Prop × V × List Blk)
 | [.sl false .str l] => some (1 ≤ l.length ∧ l.length ≤ 1000000 ∧ (∀ x ∈ l, x.length ≤ 1048576), .str (sumAll l), [])
 | _ => none
set_option maxHeartbeats 1000000 in
theorem bSumA (l : List (List UInt8)) (hp0 : 1 ≤ l.length) (hp1 : l.length ≤ 1000000) (hp2 : (∀ x ∈ l, x.length ≤ 1048576)) : bodyP (En CKnw tys G6 []) Tryd.f48 [.k] [.sl false .str l] (.str (sumAll l)) [] := by
 have hld : (l.drop 1).length = l.length - 1 := List.length_drop ..
 have hm0 : (l.getD 0 []).length ≤ 1048576 := hp2 _ (getD_mem [] l 0 (by omega))
 refine ⟨(i0 0 (l.length : Int)), ⟨by omega, by omega⟩, 0, [(3, .k), (10, .k), (11, .k), (12, .k)], fun nM vs H => ∃ (k : Nat), k ≤ (l.drop 1).length ∧ nM = (l.drop 1).length - k ∧ vs = [.str (((l.drop 1).take k).foldl sumB (l.getD 0 [])), .sl false .str (l.drop 1), .int .i64 (((l.drop 1).length : Nat) : Int), .int .i64 (k : Int)] ∧ H = [], ⟨rfl, (l.drop 1).length, 0, by omega, by omega, rfl, rfl⟩, ?_⟩
 rintro nM vs H ⟨k, hc1_0, rfl, rfl, rfl⟩
 refine ⟨fun h0 => ?_, fun h0 => ?_⟩
 ·replace h0 : (k : Int) < (((l.drop 1).length : Nat) : Int) := h0
  have hs : ((l.drop 1).drop k) = (l.drop 1).drop k := rfl
  have hm1 := foldl_len (N := 1048576) ((l.drop 1).take k) (l.getD 0 []) hm0 fun x hx => drop_all hp2 1 x (List.mem_of_mem_take hx)
  have hm2 := drop_all hp2 1 _ (getD_mem [] (l.drop 1) k (by omega))
  refine ⟨(i0 (k : Int) ((l.drop 1).length : Int)), ⟨by show (((l.drop 1).take k).foldl sumB (l.getD 0 [])).length ≤ 1000000000; first | omega | assumption | (simp only [List.length_cons, List.length_nil, List.length_append, List.length_take, List.length_drop, List.length_set, List.length_replicate]; omega), by show ((l.drop 1).getD k []).length ≤ 1000000000; first | omega | assumption | (simp only [List.length_cons, List.length_nil, List.length_append, List.length_take, List.length_drop, List.length_set, List.length_replicate]; omega)⟩, (r64 ((k : Int) + 1)), ?_⟩
  exact ⟨rfl, (l.drop 1).length - (k + 1), by omega, k + 1, by omega, rfl, by rw [foldl_snoc _ _ _ (by omega : k < (l.drop 1).length)]; rfl, rfl⟩
 ·replace h0 : ¬ ((k : Int) < (((l.drop 1).length : Nat) : Int)) := h0
  rw [show sumAll l = ((l.drop 1).take k).foldl sumB (l.getD 0 []) by rw [List.take_of_length_le (by omega)]; rfl]
  exact ⟨rfl, rfl, rfl, rfl⟩
def CSumA : List (Nat × Con) := (48, pureC [.v (.sl .str)] sSumA) :: CKnw
theorem kSumA : Known Tryd.prog (En CSumA tys G6 []) := kKnw.add Tryd.func48 Tryd.call48 [.k] fun ds p v bs h hp => by
 unfold sSumA at h
 split at h <;> simp only [Option.some.injEq, Prod.mk.injEq, reduceCtorEq] at h
 obtain ⟨rfl, rfl, rfl⟩ := h
 exact bSumA _ hp.1 hp.2.1 hp.2.2
def sAt : List V → Option (Prop × V × List Blk)
 | [.sl false .str l, .u8 x] => some (1 ≤ l.length ∧ l.length ≤ 1000000 ∧ (∀ x ∈ l, x.length ≤ 1048576), .str (atL l x), [])
 | _ => none
set_option maxHeartbeats 1000000 in
theorem bAt (l : List (List UInt8)) (x : UInt8) (hp0 : 1 ≤ l.length) (hp1 : l.length ≤ 1000000) (hp2 : (∀ x ∈ l, x.length ≤ 1048576)) : bodyP (En CSumA tys G6 []) Tryd.f42 [.k] [.sl false .str l, .u8 x] (.str (atL l x)) [] := by
 refine ⟨(r64 ((l.length : Int) - 1)), (i0 ((l.length : Int) - 1) (l.length : Int)), (r64 ((l.length : Int) - 2)), 0, [(0, .k), (1, .k), (5, .k), (6, .k)], fun nM vs H => ∃ (k : Nat), k < l.length ∧ nM = k + 1 ∧ vs = [.sl false .str l, .u8 x, .str (atL (l.drop k) x), .int .i64 ((k : Int) - 1)] ∧ H = [], ⟨rfl, l.length - 1 + 1, l.length - 1, by omega, by omega, by rw [atL_last l x hp0, show ((l.length - 1 : Nat) : Int) - 1 = (l.length : Int) - 2 by omega, show l.length - 1 = ((l.length : Int) - 1).toNat by omega]; rfl, rfl⟩, ?_⟩
 rintro nM vs H ⟨k, hc1_0, rfl, rfl, rfl⟩
 refine ⟨fun h0 => ?_, fun h0 => ?_⟩
 ·replace h0 : 0 ≤ ((k : Int) - 1) := h0
  obtain ⟨j, hj⟩ : ∃ j, k = j + 1 := ⟨k - 1, by omega⟩
  have ek : ((k : Int) - 1).toNat = j := by omega
  have hl1 := atL_len (N := 1048576) (l.drop k) x (drop_all hp2 k)
  have hl2 := hp2 _ (getD_mem [] l j (by omega))
  refine ⟨by kernel_rfl, by show (atL (l.drop k) x).length ≤ 1000000000; first | omega | assumption | (simp only [List.length_cons, List.length_nil, List.length_append, List.length_take, List.length_drop, List.length_set, List.length_replicate]; omega), (i0 ((k : Int) - 1) (l.length : Int)), ⟨by show 1 ≤ ([scaleB x (atL (l.drop k) x), l.getD (((k : Int) - 1).toNat) []] : List (List UInt8)).length; first | omega | assumption | (simp only [List.length_cons, List.length_nil, List.length_append, List.length_take, List.length_drop, List.length_set, List.length_replicate]; omega), by show ([scaleB x (atL (l.drop k) x), l.getD (((k : Int) - 1).toNat) []] : List (List UInt8)).length ≤ 1000000; first | omega | assumption | (simp only [List.length_cons, List.length_nil, List.length_append, List.length_take, List.length_drop, List.length_set, List.length_replicate]; omega), by rw [ek]; exact two_len (by rw [scale_len]; exact hl1) hl2⟩, (r64 (((k : Int) - 1) - 1)), ?_⟩
  exact ⟨rfl, j + 1, by omega, j, by omega, rfl, by (subst hj; have ej : ((j + 1 : Nat) : Int) - 1 = (j : Int) := (by omega); rw [ej, atL_drop l x j (by omega)]; rfl), rfl⟩
 ·replace h0 : ¬ (0 ≤ ((k : Int) - 1)) := h0
  rw [show k = 0 by omega]
  exact ⟨rfl, rfl, rfl, rfl⟩
def CAt : List (Nat × Con) := (42, pureC [.v (.sl .str), .v .u8] sAt) :: CSumA
theorem kAt : Known Tryd.prog (En CAt tys G6 []) := kSumA.add Tryd.func42 Tryd.call42 [.k] fun ds p v bs h hp => by
 unfold sAt at h
 split at h <;> simp only [Option.some.injEq, Prod.mk.injEq, reduceCtorEq] at h
 obtain ⟨rfl, rfl, rfl⟩ := h
 exact bAt _ _ hp.1 hp.2.1 hp.2.2
def sRgt : List V → Option (Prop × V × List Blk)
 | [.sl false .str r] => some (r.length ≤ 1048576, .b (rightB r = true), [])
 | _ => none
set_option maxHeartbeats 1000000 in
theorem bRgt (r : List (List UInt8)) (hp0 : r.length ≤ 1048576) : bodyP (En CAt tys G6 []) Tryd.f46 [.k] [.sl false .str r] (.b (rightB r = true)) [] := by
 refine ⟨fun h0 => ?_, fun h0 => ?_⟩
 ·replace h0 : ¬ ((r.length : Int) < 1) := h0
  refine ⟨fun h1 => ?_, fun h1 => ?_⟩
  ·replace h1 : 12 ≤ (r.length : Int) := h1
   rw [right_no1 (r := r) (.inr (by omega))]
   exact ⟨rfl, rfl, rfl, rfl⟩
  ·replace h1 : ¬ (12 ≤ (r.length : Int)) := h1
   have hall := right_all (r := r) (by omega) (by omega)
   refine ⟨0, [(0, .k), (13, .k), (14, .k), (15, .k)], fun nM vs H => ∃ (k : Nat), k ≤ r.length ∧ (r.drop k).all (fun s => decide (s.length = n0 r) && decide (s.length ≤ 4096)) = r.all (fun s => decide (s.length = n0 r) && decide (s.length ≤ 4096)) ∧ nM = r.length - k ∧ vs = [.sl false .str r, .sl false .str r, .int .i64 (r.length : Int), .int .i64 (k : Int)] ∧ H = [], ⟨rfl, r.length, 0, by omega, rfl, by omega, rfl, rfl⟩, ?_⟩
   rintro nM vs H ⟨k, hc1_0, hc1_1, rfl, rfl, rfl⟩
   refine ⟨fun h2 => ?_, fun h2 => ?_⟩
   ·replace h2 : (k : Int) < (r.length : Int) := h2
    have hk : k < r.length := by omega
    refine ⟨(i0 (k : Int) (r.length : Int)), (i0 0 (r.length : Int)), fun h3 => ?_, fun h3 => ?_⟩
    ·replace h3 : ¬ ((((r.getD k []).length : Nat) : Int) ≠ (((r.getD 0 []).length : Nat) : Int)) := h3
     refine ⟨fun h4 => ?_, fun h4 => ?_⟩
     ·replace h4 : 4096 < (((r.getD k []).length : Nat) : Int) := h4
      have e : rightB r = false := by rw [hall]; exact all_bad (d := []) hk hc1_1 (by show (decide ((r.getD k []).length = n0 r) && decide ((r.getD k []).length ≤ 4096)) = false; rw [decide_eq_false (by omega : ¬ (r.getD k []).length ≤ 4096), Bool.and_false])
      rw [e]
      exact ⟨rfl, rfl, rfl, rfl⟩
     ·replace h4 : ¬ (4096 < (((r.getD k []).length : Nat) : Int)) := h4
      have hok : (decide ((r.getD k []).length = n0 r) && decide ((r.getD k []).length ≤ 4096)) = true := by rw [decide_eq_true (by unfold n0; omega : (r.getD k []).length = n0 r), decide_eq_true (by omega : (r.getD k []).length ≤ 4096)]; rfl
      refine ⟨(r64 ((k : Int) + 1)), ?_⟩
      exact ⟨rfl, r.length - (k + 1), by omega, k + 1, by omega, all_next (d := []) hk hc1_1 hok, rfl, rfl, rfl⟩
    ·replace h3 : (((r.getD k []).length : Nat) : Int) ≠ (((r.getD 0 []).length : Nat) : Int) := h3
     have e : rightB r = false := by rw [hall]; exact all_bad (d := []) hk hc1_1 (by show (decide ((r.getD k []).length = n0 r) && decide ((r.getD k []).length ≤ 4096)) = false; rw [decide_eq_false (by unfold n0; omega : ¬ (r.getD k []).length = n0 r), Bool.false_and])
     rw [e]
     exact ⟨rfl, rfl, rfl, rfl⟩
   ·replace h2 : ¬ ((k : Int) < (r.length : Int)) := h2
    have e : rightB r = true := by rw [hall]; exact all_stop (by omega) hc1_1
    rw [e]
    exact ⟨rfl, rfl, rfl, rfl⟩
 ·replace h0 : (r.length : Int) < 1 := h0
  rw [right_no1 (r := r) (.inl (by omega))]
  exact ⟨rfl, rfl, rfl, rfl⟩
def CRgt : List (Nat × Con) := (46, pureC [.v (.sl .str)] sRgt) :: CAt
theorem kRgt : Known Tryd.prog (En CRgt tys G6 []) := kAt.add Tryd.func46 Tryd.call46 [.k] fun ds p v bs h hp => by
 unfold sRgt at h
 split at h <;> simp only [Option.some.injEq, Prod.mk.injEq, reduceCtorEq] at h
 obtain ⟨rfl, rfl, rfl⟩ := h
 exact bRgt _ hp
end Go.Proofs.YtpfehhcljeagoaaDoor.S28

namespace Go.Proofs.YtpfehhcljeagoaaDoor.S28
open Go

/-! ### deals -/
def n00 (cf : List Rw) : Nat := n0 (cf.getD 0 [])
def lenB (cf : List Rw) (l : Rw) : Bool := decide (l.length = cf.length) && decide ((cf.getD 0 []).length = cf.length) && l.all fun s => decide (s.length = n00 cf)
def symB (cf : List Rw) (m : Nat) : Bool := (List.range m).all fun a => (List.range a).all fun b => decide ((cf.getD a []).getD b [] = (cf.getD b []).getD a [])
def chkD (need : Int) (cf : List Rw) : Int :=
 if need < 2 ∨ 12 < need then 3 else if (cf.length : Int) ≠ need - 1 then 1 else if cf.all (lenB cf) = false then 1 else if 4096 < n00 cf then 2 else if symB cf cf.length = false then 1 else 0
structure Deal (need : Int) (cf : List Rw) : Prop where
 n2 : 2 ≤ need
 n12 : need ≤ 12
 len : (cf.length : Int) = need - 1
 rows : ∀ l ∈ cf, l.length = cf.length
 strs : ∀ l ∈ cf, ∀ s ∈ l, s.length = n00 cf
 max : n00 cf ≤ 4096
 sym : ∀ a b, a < cf.length → b < cf.length → (cf.getD a []).getD b [] = (cf.getD b []).getD a []
theorem all_false {α : Type} {p : α → Bool} {l : List α} (h : ¬ l.all p = false) : ∀ x ∈ l, p x = true := fun x hx => by
 have : l.all p = true := by simpa using h
 exact List.all_eq_true.1 this x hx
theorem chkD0 {need : Int} {cf : List Rw} (h : chkD need cf = 0) : Deal need cf := by
 unfold chkD at h
 split at h
 ·cases h
 ·split at h
  ·cases h
  ·split at h
   ·cases h
   ·split at h
    ·cases h
    ·split at h
     ·cases h
     ·rename_i h1 h2 h3 h4 h5
      have h3 := all_false h3
      have hl : ∀ l ∈ cf, l.length = cf.length ∧ ∀ s ∈ l, s.length = n00 cf := fun l hl => by
       have := h3 l hl
       unfold lenB at this
       simp only [Bool.and_eq_true, decide_eq_true_eq, List.all_eq_true] at this
       exact ⟨this.1.1, this.2⟩
      have hs : ∀ a b, a < cf.length → b < a → (cf.getD a []).getD b [] = (cf.getD b []).getD a [] := fun a b ha hb => by
       have := all_false h5 a (List.mem_range.2 ha)
       simp only [List.all_eq_true, decide_eq_true_eq] at this
       exact this b (List.mem_range.2 hb)
      refine ⟨by omega, by omega, by omega, fun l h => (hl l h).1, fun l h => (hl l h).2, by omega, fun a b ha hb => ?_⟩
      rcases Nat.lt_trichotomy a b with g | g | g
      ·exact (hs b a hb g).symm
      ·subst g; rfl
      ·exact hs a b ha g
def rowD (cf : List Rw) (h : Int) : Rw := cf.map fun l => atL l (pt h)
def rowE (need : Int) (cf : List Rw) (h : Int) : Int := if chkD need cf = 0 then (if knw h then 0 else 8) else chkD need cf
def rowL (need : Int) (cf : List Rw) (h : Int) : Rw := if rowE need cf h = 0 then rowD cf h else []
theorem map_take_snoc {α β : Type} (d : α) (f : α → β) (l : List α) (k : Nat) (h : k < l.length) : (l.take (k + 1)).map f = (l.take k).map f ++ [f (l.getD k d)] := by
 rw [takeD d l k h, List.map_append]; rfl

theorem rangeBad {p : Nat → Bool} {k m : Nat} (hk : k < m) (h : p k = false) : (List.range m).all p = false := by
 rw [Bool.eq_false_iff]
 intro e
 rw [List.all_eq_true.1 e k (List.mem_range.2 hk)] at h
 cases h
theorem rangeAll {p : Nat → Bool} {k : Nat} (h : (List.range k).all p = true) (hk : p k = true) : (List.range (k + 1)).all p = true := by
 rw [List.range_succ, List.all_append, h, List.all_cons, hk]; rfl
theorem lenB_bad1 {cf : List Rw} {l : Rw} (h : ¬ l.length = cf.length) : lenB cf l = false := by unfold lenB; rw [decide_eq_false h, Bool.false_and, Bool.false_and]
theorem lenB_bad2 {cf : List Rw} {l : Rw} (h : ¬ (cf.getD 0 []).length = cf.length) : lenB cf l = false := by unfold lenB; rw [decide_eq_false h, Bool.and_false, Bool.false_and]
theorem lenB_bad3 {cf : List Rw} {l : Rw} (h : (l.all fun s => decide (s.length = n00 cf)) = false) : lenB cf l = false := by unfold lenB; rw [h, Bool.and_false]
theorem lenB_yes {cf : List Rw} {l : Rw} (h1 : l.length = cf.length) (h2 : (cf.getD 0 []).length = cf.length) (h : (l.all fun s => decide (s.length = n00 cf)) = true) : lenB cf l = true := by unfold lenB; rw [h, decide_eq_true h1, decide_eq_true h2]; rfl
theorem lenB_len {cf : List Rw} (h : cf.all (lenB cf) = true) : ∀ l ∈ cf, l.length = cf.length := fun l hl => by
 have := List.all_eq_true.1 h l hl
 unfold lenB at this
 simp only [Bool.and_eq_true, decide_eq_true_eq] at this
 exact this.1.1

/-! ### a share renewed -/
def updB (h : Int) (b : List UInt8) (rows : List Rw) : List UInt8 := rows.foldl (fun s r => sumB s (scaleB (pt h) (r.getD 0 []))) b
def updOk (b : List UInt8) (r : Rw) : Bool := rightB r && decide (n0 r = b.length)
def updE (h : Int) (b : List UInt8) (rows : List Rw) : Int := if knw h then (if b.length ≤ 4096 then (if rows.all (updOk b) = true then 0 else 1) else 2) else 8
theorem upd_len {h : Int} {b : List UInt8} : ∀ (rows : List Rw) (s : List UInt8), s.length = b.length → (∀ r ∈ rows, updOk b r = true) → (updB h s rows).length = b.length
 | [], s, hs, _ => hs
 | r :: rows, s, hs, hr => by
  have h1 := hr r (by simp)
  unfold updOk at h1
  simp only [Bool.and_eq_true, decide_eq_true_eq] at h1
  have h2 : (r.getD 0 []).length = b.length := h1.2
  exact upd_len rows _ (by rw [sum_len, scale_len]; omega) fun x hx => hr x (by simp [hx])

theorem upd_snoc {h : Int} {b : List UInt8} {rows : List Rw} {k : Nat} (hk : k < rows.length) : updB h b (rows.take (k + 1)) = sumB (updB h b (rows.take k)) (scaleB (pt h) ((rows.getD k []).getD 0 [])) := by
 unfold updB
 rw [takeD [] rows k hk, List.foldl_append]; rfl
def updH (h : Int) (b : List UInt8) (rows : List Rw) : Int := if updE h b rows = 0 then h else 0
def updS (h : Int) (b : List UInt8) (rows : List Rw) : List UInt8 := if updE h b rows = 0 then updB h b rows else []
theorem updOk_bad1 {b : List UInt8} {r : Rw} (h : ¬ rightB r = true) : updOk b r = false := by unfold updOk; rw [Bool.eq_false_iff.2 h]; rfl
theorem updOk_bad2 {b : List UInt8} {r : Rw} (h : ¬ n0 r = b.length) : updOk b r = false := by unfold updOk; rw [decide_eq_false h, Bool.and_false]
theorem updOk_yes {b : List UInt8} {r : Rw} (h1 : rightB r = true) (h : n0 r = b.length) : updOk b r = true := by unfold updOk; rw [h1, decide_eq_true h]; rfl
theorem updOk_no {b : List UInt8} {r : Rw} (h : updOk b r = true) : rightB r = true ∧ n0 r = b.length := by
 unfold updOk at h
 simp only [Bool.and_eq_true, decide_eq_true_eq] at h
 exact h

/-! ### pairs of houses -/
/-! ### a row from others -/
end Go.Proofs.YtpfehhcljeagoaaDoor.S28

namespace Go.Proofs.YtpfehhcljeagoaaDoor.S28
open Go Go.Proofs.YtpfehhcljeagoaaDoor.Vc Go.Proofs
set_option maxRecDepth 100000
set_option linter.unusedVariables false

def sVal : List V → Option (Prop × V × List Blk)
 | [.sl false .str r, .int .i64 h] => some (r.length ≤ 1048576, .tup [.str (valS r h), .int .i64 (valE r h)], [])
 | _ => none
set_option maxHeartbeats 1000000 in
theorem bVal (r : List (List UInt8)) (h : Int) (hp0 : r.length ≤ 1048576) : bodyP (En CRgt tys G6 []) Tryd.f32 [.k, .k] [.sl false .str r, .int .i64 h] (.tup [.str (valS r h), .int .i64 (valE r h)]) [] := by
 refine ⟨by show r.length ≤ 1048576; first | omega | assumption, fun h0 => ?_, fun h0 => ?_⟩
 ·replace h0 : ¬ (rightB r = true) := h0
  have e : valE r h = 1 := if_neg h0
  rw [valS, if_neg (by rw [e]; decide), e]
  exact ⟨rfl, rfl, rfl, rfl⟩
 ·replace h0 : ¬ (¬ (rightB r = true)) := h0
  have hr := Classical.not_not.1 h0
  obtain ⟨r1, r2, r3, r4⟩ := right_ok hr
  have r5 : ∀ x ∈ r, x.length ≤ 1048576 := fun s hs => Nat.le_trans (right_len hr s hs) (by omega)
  refine ⟨rfl, trivial, fun h1 => ?_, fun h1 => ?_⟩
  ·replace h1 : ¬ (knw h) := h1
   have e : valE r h = 8 := by unfold valE; rw [if_pos hr, if_neg h1]
   rw [valS, if_neg (by rw [e]; decide), e]
   exact ⟨rfl, rfl, rfl, rfl⟩
  ·replace h1 : ¬ (¬ (knw h)) := h1
   have hk := Classical.not_not.1 h1
   obtain ⟨k1, k2⟩ := id hk
   refine ⟨(r64 (h + 1)), ⟨by show 1 ≤ r.length; first | omega | assumption, by show r.length ≤ 1000000; first | omega | assumption, by first | assumption | simp⟩, ?_⟩
   have e : valE r h = 0 := by unfold valE; rw [if_pos hr, if_pos hk]
   rw [valS, if_pos e, e]
   exact ⟨rfl, rfl, rfl, rfl⟩
def CVal : List (Nat × Con) := (32, pureC [.v (.sl .str), .v (.int .i64)] sVal) :: CRgt
theorem kVal : Known Tryd.prog (En CVal tys G6 []) := kRgt.add Tryd.func32 Tryd.call32 [.k, .k] fun ds p v bs h hp => by
 unfold sVal at h
 split at h <;> simp only [Option.some.injEq, Prod.mk.injEq, reduceCtorEq] at h
 obtain ⟨rfl, rfl, rfl⟩ := h
 exact bVal _ _ hp
def sChk : List V → Option (Prop × V × List Blk)
 | [.agg [.int .i64 nd, .sl false (.sl .str) cf]] => some (cf.length ≤ 1048576 ∧ (∀ l ∈ cf, l.length ≤ 1048576 ∧ ∀ x ∈ l, x.length ≤ 1048576), .int .i64 (chkD nd cf), [])
 | _ => none
set_option maxHeartbeats 1000000 in
theorem bChk (nd : Int) (cf : List (List (List UInt8))) (hp0 : cf.length ≤ 1048576) (hp1 : (∀ l ∈ cf, l.length ≤ 1048576 ∧ ∀ x ∈ l, x.length ≤ 1048576)) : bodyP (En CVal tys G6 []) Tryd.f40 [.k] [.agg [.int .i64 nd, .sl false (.sl .str) cf]] (.int .i64 (chkD nd cf)) [] := by
 refine ⟨fun h0 => ?_, fun h0 => ?_⟩
 ·replace h0 : ¬ (nd < 2) := h0
  refine ⟨fun h1 => ?_, fun h1 => ?_⟩
  ·replace h1 : 12 < nd := h1
   have e : chkD nd cf = 3 := by unfold chkD; rw [if_pos (by omega)]
   rw [e]
   exact ⟨rfl, rfl, rfl, rfl⟩
  ·replace h1 : ¬ (12 < nd) := h1
   refine ⟨(r64 (nd - 1)), fun h2 => ?_, fun h2 => ?_⟩
   ·replace h2 : (cf.length : Int) ≠ (nd - 1) := h2
    have e : chkD nd cf = 1 := by unfold chkD; rw [if_neg (by omega : ¬ (nd < 2 ∨ 12 < nd)), if_pos (by omega)]
    rw [e]
    exact ⟨rfl, rfl, rfl, rfl⟩
   ·replace h2 : ¬ ((cf.length : Int) ≠ (nd - 1)) := h2
    refine ⟨1, [(1, .k), (3, .k), (27, .k), (28, .k), (29, .k)], fun nM vs H => ∃ (k : Nat), k ≤ cf.length ∧ (cf.drop k).all (lenB cf) = cf.all (lenB cf) ∧ nM = cf.length - k ∧ vs = [.ptr 0 1 0 0, .int .i64 (nd - 1), .sl false (.sl .str) cf, .int .i64 (cf.length : Int), .int .i64 (k : Int)] ∧ H = [.cells [.int .i64 nd, .sl false (.sl .str) cf]], ⟨rfl, cf.length, 0, by omega, rfl, by omega, rfl, rfl⟩, ?_⟩
    rintro nM vs H ⟨k, hc1_0, hc1_1, rfl, rfl, rfl⟩
    refine ⟨fun h3 => ?_, fun h3 => ?_⟩
    ·replace h3 : (k : Int) < (cf.length : Int) := h3
     have hk : k < cf.length := by omega
     have hpk := (hp1 _ (getD_mem [] cf k hk)).1
     refine ⟨(i0 (k : Int) (cf.length : Int)), fun h4 => ?_, fun h4 => ?_⟩
     ·replace h4 : ¬ ((((cf.getD k []).length : Nat) : Int) ≠ (nd - 1)) := h4
      refine ⟨(i0 0 (cf.length : Int)), fun h5 => ?_, fun h5 => ?_⟩
      ·replace h5 : (((cf.getD 0 []).length : Nat) : Int) ≠ (nd - 1) := h5
       have hf : cf.all (lenB cf) = false := all_bad (d := []) hk hc1_1 (lenB_bad2 (by omega))
       have e : chkD nd cf = 1 := by unfold chkD; rw [if_neg (by omega : ¬ (nd < 2 ∨ 12 < nd)), if_neg (by omega : ¬ ((cf.length : Int) ≠ nd - 1)), if_pos hf]
       rw [e]
       exact ⟨rfl, rfl, rfl, rfl⟩
      ·replace h5 : ¬ ((((cf.getD 0 []).length : Nat) : Int) ≠ (nd - 1)) := h5
       refine ⟨1, [(1, .k), (3, .k), (27, .k), (28, .k), (29, .k), (46, .k), (47, .k), (48, .k)], fun nM vs H => ∃ (j : Nat), j ≤ (cf.getD k []).length ∧ ((cf.getD k []).drop j).all (fun s => decide (s.length = n00 cf)) = (cf.getD k []).all (fun s => decide (s.length = n00 cf)) ∧ nM = (cf.getD k []).length - j ∧ vs = [.ptr 0 1 0 0, .int .i64 (nd - 1), .sl false (.sl .str) cf, .int .i64 (cf.length : Int), .int .i64 (k : Int), .sl false .str (cf.getD k []), .int .i64 (((cf.getD k []).length : Nat) : Int), .int .i64 (j : Int)] ∧ H = [.cells [.int .i64 nd, .sl false (.sl .str) cf]], ⟨rfl, (cf.getD k []).length, 0, by omega, rfl, by omega, rfl, rfl⟩, ?_⟩
       rintro nM vs H ⟨j, hc2_0, hc2_1, rfl, rfl, rfl⟩
       refine ⟨fun h6 => ?_, fun h6 => ?_⟩
       ·replace h6 : (j : Int) < (((cf.getD k []).length : Nat) : Int) := h6
        have hj : j < (cf.getD k []).length := by omega
        refine ⟨(i0 (j : Int) ((cf.getD k []).length : Int)), (i0 0 (cf.length : Int)), (i0 0 ((cf.getD 0 []).length : Int)), fun h7 => ?_, fun h7 => ?_⟩
        ·replace h7 : ((((cf.getD k []).getD j []).length : Nat) : Int) ≠ ((((cf.getD 0 []).getD 0 []).length : Nat) : Int) := h7
         have hf : cf.all (lenB cf) = false := all_bad (d := []) hk hc1_1 (lenB_bad3 (all_bad (d := []) hj hc2_1 (decide_eq_false (by unfold n00 n0; omega))))
         have e : chkD nd cf = 1 := by unfold chkD; rw [if_neg (by omega : ¬ (nd < 2 ∨ 12 < nd)), if_neg (by omega : ¬ ((cf.length : Int) ≠ nd - 1)), if_pos hf]
         rw [e]
         exact ⟨rfl, rfl, rfl, rfl⟩
        ·replace h7 : ¬ (((((cf.getD k []).getD j []).length : Nat) : Int) ≠ ((((cf.getD 0 []).getD 0 []).length : Nat) : Int)) := h7
         have hok : decide (((cf.getD k []).getD j []).length = n00 cf) = true := decide_eq_true (by unfold n00 n0; omega)
         refine ⟨(r64 ((j : Int) + 1)), ?_⟩
         exact ⟨rfl, (cf.getD k []).length - (j + 1), by omega, j + 1, by omega, all_next (d := []) hj hc2_1 hok, rfl, rfl, rfl⟩
       ·replace h6 : ¬ ((j : Int) < (((cf.getD k []).length : Nat) : Int)) := h6
        have hok := lenB_yes (cf := cf) (l := cf.getD k []) (by omega) (by omega) (all_stop (by omega) hc2_1)
        refine ⟨(r64 ((k : Int) + 1)), ?_⟩
        exact ⟨rfl, cf.length - (k + 1), by omega, k + 1, by omega, all_next (d := []) hk hc1_1 hok, rfl, rfl, rfl⟩
     ·replace h4 : (((cf.getD k []).length : Nat) : Int) ≠ (nd - 1) := h4
      have hf : cf.all (lenB cf) = false := all_bad (d := []) hk hc1_1 (lenB_bad1 (by omega))
      have e : chkD nd cf = 1 := by unfold chkD; rw [if_neg (by omega : ¬ (nd < 2 ∨ 12 < nd)), if_neg (by omega : ¬ ((cf.length : Int) ≠ nd - 1)), if_pos hf]
      rw [e]
      exact ⟨rfl, rfl, rfl, rfl⟩
    ·replace h3 : ¬ ((k : Int) < (cf.length : Int)) := h3
     have hall : cf.all (lenB cf) = true := all_stop (by omega) hc1_1
     have hrows := lenB_len hall
     have h00 := hrows _ (getD_mem [] cf 0 (by omega))
     refine ⟨(i0 0 (cf.length : Int)), (i0 0 ((cf.getD 0 []).length : Int)), fun h8 => ?_, fun h8 => ?_⟩
     ·replace h8 : 4096 < ((((cf.getD 0 []).getD 0 []).length : Nat) : Int) := h8
      have e : chkD nd cf = 2 := by unfold chkD; rw [if_neg (by omega : ¬ (nd < 2 ∨ 12 < nd)), if_neg (by omega : ¬ ((cf.length : Int) ≠ nd - 1)), if_neg (by rw [hall]; decide), if_pos (by unfold n00 n0; omega)]
      rw [e]
      exact ⟨rfl, rfl, rfl, rfl⟩
     ·replace h8 : ¬ (4096 < ((((cf.getD 0 []).getD 0 []).length : Nat) : Int)) := h8
      refine ⟨1, [(1, .k), (72, .k), (73, .k)], fun nM vs H => ∃ (i : Nat), i ≤ cf.length ∧ (List.range i).all (fun a => (List.range a).all fun b => decide ((cf.getD a []).getD b [] = (cf.getD b []).getD a [])) = true ∧ nM = cf.length - i ∧ vs = [.ptr 0 1 0 0, .int .i64 (nd - 1), .int .i64 (i : Int)] ∧ H = [.cells [.int .i64 nd, .sl false (.sl .str) cf]], ⟨rfl, cf.length, 0, by omega, rfl, by omega, rfl, rfl⟩, ?_⟩
      rintro nM vs H ⟨i, hc3_0, hc3_1, rfl, rfl, rfl⟩
      refine ⟨fun h9 => ?_, fun h9 => ?_⟩
      ·replace h9 : (i : Int) < (nd - 1) := h9
       have hri := hrows _ (getD_mem [] cf i (by omega))
       refine ⟨1, [(1, .k), (8, .k), (72, .k), (73, .k), (76, .k), (77, .k)], fun nM vs H => ∃ (j : Nat), j ≤ i ∧ (List.range j).all (fun b => decide ((cf.getD i []).getD b [] = (cf.getD b []).getD i [])) = true ∧ nM = i - j ∧ vs = [.ptr 0 1 0 0, .int .i64 (i : Int), .int .i64 (nd - 1), .int .i64 (i : Int), .int .i64 (i : Int), .int .i64 (j : Int)] ∧ H = [.cells [.int .i64 nd, .sl false (.sl .str) cf]], ⟨rfl, i, 0, by omega, rfl, by omega, rfl, rfl⟩, ?_⟩
       rintro nM vs H ⟨j, hc4_0, hc4_1, rfl, rfl, rfl⟩
       refine ⟨fun h10 => ?_, fun h10 => ?_⟩
       ·replace h10 : (j : Int) < (i : Int) := h10
        have hrj := hrows _ (getD_mem [] cf j (by omega))
        refine ⟨by kernel_rfl, (i0 (i : Int) (cf.length : Int)), (i0 (j : Int) ((cf.getD i []).length : Int)), (i0 (j : Int) (cf.length : Int)), (i0 (i : Int) ((cf.getD j []).length : Int)), fun h11 => ?_, fun h11 => ?_⟩
        ·replace h11 : ((cf.getD i []).getD j []) ≠ ((cf.getD j []).getD i []) := h11
         have hs : symB cf cf.length = false := rangeBad (k := i) (by omega) (rangeBad (p := (fun b => decide ((cf.getD i []).getD b [] = (cf.getD b []).getD i []))) (k := j) (by omega) (decide_eq_false h11))
         have e : chkD nd cf = 1 := by unfold chkD; rw [if_neg (by omega : ¬ (nd < 2 ∨ 12 < nd)), if_neg (by omega : ¬ ((cf.length : Int) ≠ nd - 1)), if_neg (by rw [hall]; decide), if_neg (by unfold n00 n0; omega), if_pos hs]
         rw [e]
         exact ⟨rfl, rfl, rfl, rfl⟩
        ·replace h11 : ¬ (((cf.getD i []).getD j []) ≠ ((cf.getD j []).getD i [])) := h11
         have hok : decide ((cf.getD i []).getD j [] = (cf.getD j []).getD i []) = true := decide_eq_true (Classical.not_not.1 h11)
         refine ⟨(r64 ((j : Int) + 1)), ?_⟩
         exact ⟨rfl, i - (j + 1), by omega, j + 1, by omega, rangeAll hc4_1 hok, rfl, rfl, rfl⟩
       ·replace h10 : ¬ ((j : Int) < (i : Int)) := h10
        have hok : (List.range i).all (fun b => decide ((cf.getD i []).getD b [] = (cf.getD b []).getD i [])) = true := by rw [show i = j by omega] at hc4_1 ⊢; exact hc4_1
        refine ⟨(r64 ((i : Int) + 1)), ?_⟩
        exact ⟨rfl, cf.length - (i + 1), by omega, i + 1, by omega, rangeAll hc3_1 hok, rfl, rfl, rfl⟩
      ·replace h9 : ¬ ((i : Int) < (nd - 1)) := h9
       have hs : symB cf cf.length = true := by rw [show cf.length = i by omega]; exact hc3_1
       have e : chkD nd cf = 0 := by unfold chkD; rw [if_neg (by omega : ¬ (nd < 2 ∨ 12 < nd)), if_neg (by omega : ¬ ((cf.length : Int) ≠ nd - 1)), if_neg (by rw [hall]; decide), if_neg (by unfold n00 n0; omega), if_neg (by rw [hs]; decide)]
       rw [e]
       exact ⟨rfl, rfl, rfl, rfl⟩
 ·replace h0 : nd < 2 := h0
  have e : chkD nd cf = 3 := by unfold chkD; rw [if_pos (by omega)]
  rw [e]
  exact ⟨rfl, rfl, rfl, rfl⟩
def CChk : List (Nat × Con) := (40, pureC [.v (.cons (.int .i64) (.cons (.sl (.sl .str)) .nil))] sChk) :: CVal
theorem kChk : Known Tryd.prog (En CChk tys G6 []) := kVal.add Tryd.func40 Tryd.call40 [.k] fun ds p v bs h hp => by
 unfold sChk at h
 split at h <;> simp only [Option.some.injEq, Prod.mk.injEq, reduceCtorEq] at h
 obtain ⟨rfl, rfl, rfl⟩ := h
 exact bChk _ _ hp.1 hp.2
def sRow : List V → Option (Prop × V × List Blk)
 | [.agg [.int .i64 nd, .sl false (.sl .str) cf], .int .i64 h] => some (cf.length ≤ 1048576 ∧ (∀ l ∈ cf, l.length ≤ 1048576 ∧ ∀ x ∈ l, x.length ≤ 1048576), .tup [.sl true .str (rowL nd cf h), .int .i64 (rowE nd cf h)], [])
 | _ => none
set_option maxHeartbeats 1000000 in
theorem bRow (nd : Int) (cf : List (List (List UInt8))) (h : Int) (hp0 : cf.length ≤ 1048576) (hp1 : (∀ l ∈ cf, l.length ≤ 1048576 ∧ ∀ x ∈ l, x.length ≤ 1048576)) : bodyP (En CChk tys G6 []) Tryd.f27 [.d .str, .k] [.agg [.int .i64 nd, .sl false (.sl .str) cf], .int .i64 h] (.tup [.sl true .str (rowL nd cf h), .int .i64 (rowE nd cf h)]) [] := by
 refine ⟨rfl, ⟨by show cf.length ≤ 1048576; first | omega | assumption, by first | assumption | simp⟩, fun h0 => ?_, fun h0 => ?_⟩
 ·replace h0 : (chkD nd cf) ≠ 0 := h0
  have e : rowE nd cf h = chkD nd cf := if_neg h0
  rw [rowL, if_neg (by rw [e]; exact h0), e]
  exact ⟨rfl, rfl, rfl, rfl⟩
 ·replace h0 : ¬ ((chkD nd cf) ≠ 0) := h0
  have hc := Classical.not_not.1 h0
  have hd := chkD0 hc
  obtain ⟨d1, d2, d3, d4, d5, d6, d7⟩ := id hd
  refine ⟨rfl, trivial, fun h1 => ?_, fun h1 => ?_⟩
  ·replace h1 : ¬ (knw h) := h1
   have e : rowE nd cf h = 8 := by unfold rowE; rw [if_pos hc, if_neg h1]
   rw [rowL, if_neg (by rw [e]; decide), e]
   exact ⟨rfl, rfl, rfl, rfl⟩
  ·replace h1 : ¬ (¬ (knw h)) := h1
   have hk := Classical.not_not.1 h1
   obtain ⟨k1, k2⟩ := id hk
   refine ⟨1, [(1, .k), (7, .o .str), (19, .k), (20, .k), (21, .k)], fun nM vs H => ∃ (k : Nat), k ≤ cf.length ∧ nM = cf.length - k ∧ vs = [.int .i64 h, .own .str 1, .sl false (.sl .str) cf, .int .i64 (cf.length : Int), .int .i64 (k : Int)] ∧ H = [.cells [.int .i64 nd, .sl false (.sl .str) cf], .row true .str ((cf.take k).map fun l => atL l (pt h))], ⟨rfl, cf.length, 0, by omega, by omega, rfl, rfl⟩, ?_⟩
   rintro nM vs H ⟨k, hc1_0, rfl, rfl, rfl⟩
   refine ⟨fun h2 => ?_, fun h2 => ?_⟩
   ·replace h2 : (k : Int) < (cf.length : Int) := h2
    have hkl : k < cf.length := by omega
    have hm := getD_mem [] cf k hkl
    have hr4 := d4 _ hm
    have hr5 : ∀ x ∈ cf.getD k [], x.length ≤ 1048576 := (hp1 _ hm).2
    have hml : ((cf.take k).map fun l => atL l (pt h)).length = k := by rw [List.length_map, List.length_take]; omega
    refine ⟨(i0 (k : Int) (cf.length : Int)), (r64 (h + 1)), ⟨by show 1 ≤ (cf.getD k []).length; first | omega | assumption | (simp only [List.length_cons, List.length_nil, List.length_append, List.length_take, List.length_drop, List.length_set, List.length_replicate]; omega), by show (cf.getD k []).length ≤ 1000000; first | omega | assumption | (simp only [List.length_cons, List.length_nil, List.length_append, List.length_take, List.length_drop, List.length_set, List.length_replicate]; omega), by first | assumption | simp⟩, ⟨rfl, rfl⟩, by show ((cf.take k).map fun l => atL l (pt h)).length + ([atL (cf.getD k []) (UInt8.ofNat ((h + 1) % 256).toNat)] : List (List UInt8)).length ≤ 1000000000; simp only [List.length_cons, List.length_nil]; omega, (r64 ((k : Int) + 1)), ?_⟩
    exact ⟨rfl, cf.length - (k + 1), by omega, k + 1, by omega, rfl, rfl, by rw [map_take_snoc [] _ cf k hkl]; rfl⟩
   ·replace h2 : ¬ ((k : Int) < (cf.length : Int)) := h2
    have e : rowE nd cf h = 0 := by unfold rowE; rw [if_pos hc, if_pos hk]
    rw [rowL, if_pos e, e, rowD, show k = cf.length by omega, List.take_length]
    exact ⟨rfl, rfl, rfl, rfl⟩
def CRow : List (Nat × Con) := (27, pureC [.v (.cons (.int .i64) (.cons (.sl (.sl .str)) .nil)), .v (.int .i64)] sRow) :: CChk
theorem kRow : Known Tryd.prog (En CRow tys G6 []) := kChk.add Tryd.func27 Tryd.call27 [.d .str, .k] fun ds p v bs h hp => by
 unfold sRow at h
 split at h <;> simp only [Option.some.injEq, Prod.mk.injEq, reduceCtorEq] at h
 obtain ⟨rfl, rfl, rfl⟩ := h
 exact bRow _ _ _ hp.1 hp.2
def sUpd : List V → Option (Prop × V × List Blk)
 | [.agg [.int .i64 h, .str bs], .sl false (.sl .str) rs] => some (rs.length ≤ 1048576 ∧ (∀ l ∈ rs, l.length ≤ 1048576), .tup [.agg [.int .i64 (updH h bs rs), .str (updS h bs rs)], .int .i64 (updE h bs rs)], [])
 | _ => none
set_option maxHeartbeats 2000000 in
theorem bUpd (h : Int) (bs : List UInt8) (rs : List (List (List UInt8))) (hp0 : rs.length ≤ 1048576) (hp1 : (∀ l ∈ rs, l.length ≤ 1048576)) : bodyP (En CRow tys G6 []) Tryd.f34 [.k, .k] [.agg [.int .i64 h, .str bs], .sl false (.sl .str) rs] (.tup [.agg [.int .i64 (updH h bs rs), .str (updS h bs rs)], .int .i64 (updE h bs rs)]) [] := by
 refine ⟨rfl, trivial, fun h0 => ?_, fun h0 => ?_⟩
 ·replace h0 : ¬ (knw h) := h0
  refine ⟨⟨rfl, rfl, rfl, Nat.le_of_ble_eq_true rfl⟩, ?_⟩
  have e : updE h bs rs = 8 := by unfold updE; rw [if_neg h0]
  rw [updH, updS, if_neg (by rw [e]; decide), if_neg (by rw [e]; decide), e]
  exact ⟨rfl, rfl, rfl, rfl⟩
 ·replace h0 : ¬ (¬ (knw h)) := h0
  have hk := Classical.not_not.1 h0
  obtain ⟨k1, k2⟩ := id hk
  refine ⟨fun h1 => ?_, fun h1 => ?_⟩
  ·replace h1 : 4096 < (bs.length : Int) := h1
   refine ⟨⟨rfl, rfl, rfl, Nat.le_of_ble_eq_true rfl⟩, ?_⟩
   have e : updE h bs rs = 2 := by unfold updE; rw [if_pos hk, if_neg (by omega)]
   rw [updH, updS, if_neg (by rw [e]; decide), if_neg (by rw [e]; decide), e]
   exact ⟨rfl, rfl, rfl, rfl⟩
  ·replace h1 : ¬ (4096 < (bs.length : Int)) := h1
   refine ⟨2, [(1, .k), (2, .k), (4, .k), (20, .k), (21, .k), (22, .k)], fun nM vs H => ∃ (k : Nat), k ≤ rs.length ∧ (rs.drop k).all (updOk bs) = rs.all (updOk bs) ∧ nM = rs.length - k ∧ vs = [.sl false (.sl .str) rs, .ptr 0 1 0 0, .ptr 1 1 0 0, .sl false (.sl .str) rs, .int .i64 (rs.length : Int), .int .i64 (k : Int)] ∧ H = [.cells [.int .i64 h, .str bs], .cells [.int .i64 0, .str ([])]], ⟨rfl, rs.length, 0, by omega, rfl, by omega, rfl, rfl⟩, ?_⟩
   rintro nM vs H ⟨k, hc1_0, hc1_1, rfl, rfl, rfl⟩
   refine ⟨fun h2 => ?_, fun h2 => ?_⟩
   ·replace h2 : (k : Int) < (rs.length : Int) := h2
    have hkl : k < rs.length := by omega
    have hrl := hp1 _ (getD_mem [] rs k hkl)
    refine ⟨(i0 (k : Int) (rs.length : Int)), by kernel_rfl, by show (rs.getD k []).length ≤ 1048576; first | omega | assumption | (simp only [List.length_cons, List.length_nil, List.length_append, List.length_take, List.length_drop, List.length_set, List.length_replicate]; omega), fun h3 => ?_, fun h3 => ?_⟩
    ·replace h3 : ¬ (¬ (rightB (rs.getD k []) = true)) := h3
     have hr := Classical.not_not.1 h3
     obtain ⟨r1, r2, r3, r4⟩ := right_ok hr
     refine ⟨fun h4 => ?_, fun h4 => absurd h4 (show ¬ (¬ (rightB (rs.getD k []) = true)) by first | omega | assumption | simp_all)⟩
     refine ⟨(i0 0 ((rs.getD k []).length : Int)), fun h5 => ?_, fun h5 => absurd h5 (show ¬ (¬ (rightB (rs.getD k []) = true)) by first | omega | assumption | simp_all)⟩
     refine ⟨fun h6 => ?_, fun h6 => absurd h6 (show ¬ (¬ (rightB (rs.getD k []) = true)) by first | omega | assumption | simp_all)⟩
     refine ⟨fun h7 => ?_, fun h7 => absurd h7 (show ¬ (¬ (rightB (rs.getD k []) = true)) by first | omega | assumption | simp_all)⟩
     refine ⟨fun h8 => ?_, fun h8 => absurd h8 (show ¬ (¬ (rightB (rs.getD k []) = true)) by first | omega | assumption | simp_all)⟩
     refine ⟨fun h9 => ?_, fun h9 => absurd h9 (show ¬ (¬ (rightB (rs.getD k []) = true)) by first | omega | assumption | simp_all)⟩
     refine ⟨fun h10 => ?_, fun h10 => absurd h10 (show ¬ (¬ (rightB (rs.getD k []) = true)) by first | omega | assumption | simp_all)⟩
     refine ⟨fun h11 => absurd h11 (show ¬ (¬ (rightB (rs.getD k []) = true)) by first | omega | assumption | simp_all), fun h11 => ?_⟩
     refine ⟨fun h12 => ?_, fun h12 => ?_⟩
     ·replace h12 : ((((rs.getD k []).getD 0 []).length : Nat) : Int) ≠ (bs.length : Int) := h12
      refine ⟨⟨rfl, rfl, rfl, Nat.le_of_ble_eq_true rfl⟩, ?_⟩
      have hf : rs.all (updOk bs) = false := all_bad (d := []) hkl hc1_1 (updOk_bad2 (by unfold n0; omega))
      have e : updE h bs rs = 1 := by unfold updE; rw [if_pos hk, if_pos (by omega), if_neg (by rw [hf]; decide)]
      rw [updH, updS, if_neg (by rw [e]; decide), if_neg (by rw [e]; decide), e]
      exact ⟨rfl, rfl, rfl, rfl⟩
     ·replace h12 : ¬ (((((rs.getD k []).getD 0 []).length : Nat) : Int) ≠ (bs.length : Int)) := h12
      have hok := updOk_yes (b := bs) hr (by unfold n0; omega)
      refine ⟨(r64 ((k : Int) + 1)), ?_⟩
      exact ⟨rfl, rs.length - (k + 1), by omega, k + 1, by omega, all_next (d := []) hkl hc1_1 hok, rfl, rfl, rfl⟩
    ·replace h3 : ¬ (rightB (rs.getD k []) = true) := h3
     refine ⟨fun h13 => absurd (show ¬ (rightB (rs.getD k []) = true) by first | omega | assumption | simp_all) h13, fun h13 => ?_⟩
     refine ⟨fun h14 => absurd (show ¬ (rightB (rs.getD k []) = true) by first | omega | assumption | simp_all) h14, fun h14 => ?_⟩
     refine ⟨fun h15 => absurd (show ¬ (rightB (rs.getD k []) = true) by first | omega | assumption | simp_all) h15, fun h15 => ?_⟩
     refine ⟨fun h16 => absurd (show ¬ (rightB (rs.getD k []) = true) by first | omega | assumption | simp_all) h16, fun h16 => ?_⟩
     refine ⟨fun h17 => absurd (show ¬ (rightB (rs.getD k []) = true) by first | omega | assumption | simp_all) h17, fun h17 => ?_⟩
     refine ⟨fun h18 => absurd (show ¬ (rightB (rs.getD k []) = true) by first | omega | assumption | simp_all) h18, fun h18 => ?_⟩
     refine ⟨fun h19 => absurd (show ¬ (rightB (rs.getD k []) = true) by first | omega | assumption | simp_all) h19, fun h19 => ?_⟩
     refine ⟨fun h20 => ?_, fun h20 => absurd (show ¬ (rightB (rs.getD k []) = true) by first | omega | assumption | simp_all) h20⟩
     refine ⟨⟨rfl, rfl, rfl, Nat.le_of_ble_eq_true rfl⟩, ?_⟩
     have hf : rs.all (updOk bs) = false := all_bad (d := []) hkl hc1_1 (updOk_bad1 h3)
     have e : updE h bs rs = 1 := by unfold updE; rw [if_pos hk, if_pos (by omega), if_neg (by rw [hf]; decide)]
     rw [updH, updS, if_neg (by rw [e]; decide), if_neg (by rw [e]; decide), e]
     exact ⟨rfl, rfl, rfl, rfl⟩
   ·replace h2 : ¬ ((k : Int) < (rs.length : Int)) := h2
    have hall : rs.all (updOk bs) = true := all_stop (by omega) hc1_1
    have hev := List.all_eq_true.1 hall
    refine ⟨2, [(2, .k), (4, .k), (41, .k), (42, .k), (43, .k)], fun nM vs H => ∃ (k : Nat), k ≤ rs.length ∧ nM = rs.length - k ∧ vs = [.ptr 0 1 0 0, .ptr 1 1 0 0, .sl false (.sl .str) rs, .int .i64 (rs.length : Int), .int .i64 (k : Int)] ∧ H = [.cells [.int .i64 h, .str (updB h bs (rs.take k))], .cells [.int .i64 0, .str ([])]], ⟨rfl, rs.length, 0, by omega, by omega, rfl, rfl⟩, ?_⟩
    rintro nM vs H ⟨k, hc2_0, rfl, rfl, rfl⟩
    refine ⟨fun h21 => ?_, fun h21 => ?_⟩
    ·replace h21 : (k : Int) < (rs.length : Int) := h21
     have hkm : k < rs.length := by omega
     obtain ⟨hr, hn⟩ := updOk_no (hev _ (getD_mem [] rs k hkm))
     obtain ⟨r1, r2, r3, r4⟩ := right_ok hr
     have hl1 := upd_len (h := h) (b := bs) (rs.take k) bs rfl (fun x hx => hev x (List.mem_of_mem_take hx))
     replace hn : ((rs.getD k []).getD 0 []).length = bs.length := hn
     refine ⟨(i0 (k : Int) (rs.length : Int)), by kernel_rfl, (r64 (h + 1)), (i0 0 ((rs.getD k []).length : Int)), by show ((rs.getD k []).getD 0 []).length ≤ 1000000000; first | omega | assumption | (simp only [List.length_cons, List.length_nil, List.length_append, List.length_take, List.length_drop, List.length_set, List.length_replicate]; omega), ⟨by show 1 ≤ ([updB h bs (rs.take k), scaleB (UInt8.ofNat ((h + 1) % 256).toNat) ((rs.getD k []).getD 0 [])] : List (List UInt8)).length; first | omega | assumption | (simp only [List.length_cons, List.length_nil, List.length_append, List.length_take, List.length_drop, List.length_set, List.length_replicate]; omega), by show ([updB h bs (rs.take k), scaleB (UInt8.ofNat ((h + 1) % 256).toNat) ((rs.getD k []).getD 0 [])] : List (List UInt8)).length ≤ 1000000; first | omega | assumption | (simp only [List.length_cons, List.length_nil, List.length_append, List.length_take, List.length_drop, List.length_set, List.length_replicate]; omega), by show (∀ x ∈ ([updB h bs (rs.take k), scaleB (UInt8.ofNat ((h + 1) % 256).toNat) ((rs.getD k []).getD 0 [])] : List (List UInt8)), x.length ≤ 1048576); exact two_len (by omega) (by rw [scale_len]; omega)⟩, ⟨rfl, rfl, rfl⟩, (r64 ((k : Int) + 1)), ?_⟩
     exact ⟨rfl, rs.length - (k + 1), by omega, k + 1, by omega, rfl, rfl, by rw [upd_snoc hkm]; rfl⟩
    ·replace h21 : ¬ ((k : Int) < (rs.length : Int)) := h21
     refine ⟨⟨rfl, rfl, rfl, Nat.le_of_ble_eq_true rfl⟩, ?_⟩
     have e : updE h bs rs = 0 := by unfold updE; rw [if_pos hk, if_pos (by omega), if_pos hall]
     rw [updH, updS, if_pos e, if_pos e, e, show updB h bs rs = updB h bs (rs.take k) by rw [List.take_of_length_le (by omega)]]
     exact ⟨rfl, rfl, rfl, rfl⟩
def CUpd : List (Nat × Con) := (34, pureC [.v (.cons (.int .i64) (.cons .str .nil)), .v (.sl (.sl .str))] sUpd) :: CRow
theorem kUpd : Known Tryd.prog (En CUpd tys G6 []) := kRow.add Tryd.func34 Tryd.call34 [.k, .k] fun ds p v bs h hp => by
 unfold sUpd at h
 split at h <;> simp only [Option.some.injEq, Prod.mk.injEq, reduceCtorEq] at h
 obtain ⟨rfl, rfl, rfl⟩ := h
 exact bUpd _ _ _ hp.1 hp.2
end Go.Proofs.YtpfehhcljeagoaaDoor.S28

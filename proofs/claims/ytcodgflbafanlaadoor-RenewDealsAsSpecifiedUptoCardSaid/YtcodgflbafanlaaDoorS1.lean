/- Texts of this claim: S27d.Pm, S27d.Pi, S27d.Pa, S27d.A0, S27d.Pb, S27d.A1, S27d.Pc. -/
import Derived.Test.YtcodgflbafanlaaDoorS0
set_option linter.unusedVariables false
set_option linter.unusedSimpArgs false
namespace Go.Proofs.YtcodgflbafanlaaDoor.S27
open Go Go.Proofs.YtcodgflbafanlaaDoor.Vc Go.Proofs
set_option maxRecDepth 100000

/-! ### The product -/
/-! ### The value -/
/-! ### The degree of a product -/
/-! ### Division -/
end Go.Proofs.YtcodgflbafanlaaDoor.S27

namespace Go.Proofs.YtcodgflbafanlaaDoor.S27
open Go Go.Proofs.YtcodgflbafanlaaDoor.Vc Go.Proofs
set_option maxRecDepth 100000

/-! ### Roots -/
/-! ### The product of all x - xs[k] -/
/-! ### The program's interpolation -/
end Go.Proofs.YtcodgflbafanlaaDoor.S27

namespace Go.Proofs.YtcodgflbafanlaaDoor.S27
open Go

/-! ### strings of bytes -/
def fillF (f : Nat → UInt8) (n k : Nat) : List UInt8 := (List.range n).map fun i => if i < k then f i else 0
theorem fill_len (f : Nat → UInt8) (n k : Nat) : (fillF f n k).length = n := by simp [fillF]
theorem fill_zero (f : Nat → UInt8) (n : Nat) : fillF f n 0 = List.replicate n 0 := by
  apply List.ext_getElem
  · simp [fillF]
  · intro i h1 h2; simp [fillF]
theorem fill_set (f : Nat → UInt8) {n k : Nat} (h : k < n) : (fillF f n k).set k (f k) = fillF f n (k + 1) := by
  apply List.ext_getElem
  · simp [fillF]
  · intro i h1 h2
    rw [List.getElem_set]
    simp only [fillF, List.getElem_map, List.getElem_range]
    by_cases e : k = i
    · subst e; simp
    · rw [if_neg e]
      by_cases g : i < k
      · rw [if_pos g, if_pos (by omega)]
      · rw [if_neg g, if_neg (by omega)]
theorem fill_all (f : Nat → UInt8) (n : Nat) : fillF f n n = (List.range n).map f := by
  apply List.map_congr_left
  intro i hi
  rw [List.mem_range] at hi
  rw [if_pos hi]
def scaleF (c : UInt8) (s : List UInt8) (i : Nat) : UInt8 := mulL c (s.getD i 0)
def scaleB (c : UInt8) (s : List UInt8) : List UInt8 := (List.range s.length).map (scaleF c s)
def sumG (a b : List UInt8) (i : Nat) : UInt8 := if i < b.length then a.getD i 0 ^^^ b.getD i 0 else a.getD i 0
def sumF (a b : List UInt8) : List UInt8 := (List.range a.length).map (sumG a b)
def sumB (a b : List UInt8) : List UInt8 := if a.length < b.length then sumF b a else sumF a b
theorem scale_len (c : UInt8) (s : List UInt8) : (scaleB c s).length = s.length := by simp [scaleB]
theorem sum_len (a b : List UInt8) : (sumB a b).length = max a.length b.length := by
  unfold sumB
  split <;> simp [sumF] <;> omega
end Go.Proofs.YtcodgflbafanlaaDoor.S27

namespace Go.Proofs.YtcodgflbafanlaaDoor.S27
open Go Go.Proofs.YtcodgflbafanlaaDoor.Vc Go.Proofs
set_option maxRecDepth 100000
set_option linter.unusedVariables false

def sGSc : List V → Option (Prop × V × List Blk)
  | [.int .i64 k, .rp false .u8 c 0, .rp false .str s 0] => some (0 ≤ k ∧ k < (s.length : Int), .u8 (scaleF c s k.toNat), [])
  | _ => none
set_option maxHeartbeats 1000000 in
theorem bGSc (k : Int) (c : UInt8) (s : List UInt8) (hp0 : 0 ≤ k) (hp1 : k < (s.length : Int)) : bodyP (En C23 tys G6 []) Tryd.f35 [.k] [.int .i64 k, .rp false .u8 c 0, .rp false .str s 0] (.u8 (scaleF c s k.toNat)) [] := by
  refine ⟨by kernel_rfl, ⟨by show (0 : Int) ≤ k; omega, by show k < (s.length : Int); omega⟩, trivial, ?_⟩
  exact ⟨rfl, rfl, rfl, rfl⟩
def CGSc : List (Nat × Con) := (35, pureC [.v (.int .i64), .ref .u8, .ref .str] sGSc) :: C23
theorem kGSc : Known Tryd.prog (En CGSc tys G6 []) := k23.add Tryd.func35 Tryd.call35 [.k] fun ds p v bs h hp => by
  unfold sGSc at h
  split at h <;> simp only [Option.some.injEq, Prod.mk.injEq, reduceCtorEq] at h
  obtain ⟨rfl, rfl, rfl⟩ := h
  exact bGSc _ _ _ hp.1 hp.2
def sGSm : List V → Option (Prop × V × List Blk)
  | [.int .i64 k, .rp false .str b 0, .rp false .str a 0] => some (0 ≤ k ∧ k < (a.length : Int), .u8 (sumG a b k.toNat), [])
  | _ => none
set_option maxHeartbeats 1000000 in
theorem bGSm (k : Int) (b : List UInt8) (a : List UInt8) (hp0 : 0 ≤ k) (hp1 : k < (a.length : Int)) : bodyP (En CGSc tys G6 []) Tryd.f41 [.k] [.int .i64 k, .rp false .str b 0, .rp false .str a 0] (.u8 (sumG a b k.toNat)) [] := by
  refine ⟨fun h0 => ?_, fun h0 => ?_⟩
  · replace h0 : k < (b.length : Int) := h0
    refine ⟨by kernel_rfl, ⟨by show (0 : Int) ≤ k; omega, by show k < (a.length : Int); omega⟩, ⟨by show (0 : Int) ≤ k; omega, by show k < (b.length : Int); omega⟩, ?_⟩
    rw [show sumG a b k.toNat = _ from if_pos (by omega)]
    exact ⟨rfl, rfl, rfl, rfl⟩
  · replace h0 : ¬ (k < (b.length : Int)) := h0
    refine ⟨⟨by show (0 : Int) ≤ k; omega, by show k < (a.length : Int); omega⟩, ?_⟩
    rw [show sumG a b k.toNat = _ from if_neg (by omega)]
    exact ⟨rfl, rfl, rfl, rfl⟩
def CGSm : List (Nat × Con) := (41, pureC [.v (.int .i64), .ref .str, .ref .str] sGSm) :: CGSc
theorem kGSm : Known Tryd.prog (En CGSm tys G6 []) := kGSc.add Tryd.func41 Tryd.call41 [.k] fun ds p v bs h hp => by
  unfold sGSm at h
  split at h <;> simp only [Option.some.injEq, Prod.mk.injEq, reduceCtorEq] at h
  obtain ⟨rfl, rfl, rfl⟩ := h
  exact bGSm _ _ _ hp.1 hp.2
set_option maxHeartbeats 1000000 in
theorem bGBu0 (z : Int) (c : UInt8) (s : List UInt8) (hp0 : z = (s.length : Int)) (hp1 : s.length ≤ 1000000000) : bodyP (En CGSm tys G6 []) Tryd.f34 [.k] [.int .i64 z, .fn 35 [.rp false .u8 c 0, .rp false .str s 0]] (.str (scaleB c s)) [] := by
  refine ⟨⟨rfl, by show (0 : Int) ≤ z; omega, by show z ≤ (1000000000 : Int); omega⟩, 0, [(1, .k), (5, .o .u8), (9, .k), (10, .k)], fun nM vs H => ∃ (k : Nat), (k : Int) ≤ z ∧ nM = z.toNat - k ∧ vs = [.fn 35 [.rp false .u8 c 0, .rp false .str s 0], .own .u8 0, .int .i64 z, .int .i64 (k : Int)] ∧ H = [.row true .u8 (fillF (scaleF c s) z.toNat k)], ⟨rfl, z.toNat, 0, by omega, by omega, rfl, by rw [fill_zero]; rfl⟩, ?_⟩
  rintro nM vs H ⟨k, hc1_0, rfl, rfl, rfl⟩
  refine ⟨fun h0 => ?_, fun h0 => ?_⟩
  · replace h0 : (k : Int) < z := h0
    have hl := fill_len (scaleF c s) z.toNat k
    refine ⟨rfl, ⟨by show 0 ≤ (k : Int); first | omega | assumption, by show (k : Int) < (s.length : Int); first | omega | assumption⟩, ⟨by show (0 : Int) ≤ (k : Int); omega, by show (k : Int) < ((fillF (scaleF c s) z.toNat k).length : Int); omega⟩, ⟨rfl, rfl⟩, ⟨by show (-9223372036854775808 : Int) ≤ ((k : Int) + 1); omega, by show ((k : Int) + 1) ≤ (9223372036854775807 : Int); omega⟩, ?_⟩
    exact ⟨rfl, z.toNat - (k + 1), by omega, k + 1, by omega, rfl, rfl, by rw [← fill_set _ (by omega : k < z.toNat)]; rfl⟩
  · replace h0 : ¬ ((k : Int) < z) := h0
    rw [show k = z.toNat by omega, fill_all, show z.toNat = s.length by omega]
    exact ⟨rfl, rfl, rfl, rfl⟩
set_option maxHeartbeats 1000000 in
theorem bGBu1 (z : Int) (b : List UInt8) (a : List UInt8) (hp0 : z = (a.length : Int)) (hp1 : a.length ≤ 1000000000) : bodyP (En CGSm tys G6 []) Tryd.f34 [.k] [.int .i64 z, .fn 41 [.rp false .str b 0, .rp false .str a 0]] (.str (sumF a b)) [] := by
  refine ⟨⟨rfl, by show (0 : Int) ≤ z; omega, by show z ≤ (1000000000 : Int); omega⟩, 0, [(1, .k), (5, .o .u8), (9, .k), (10, .k)], fun nM vs H => ∃ (k : Nat), (k : Int) ≤ z ∧ nM = z.toNat - k ∧ vs = [.fn 41 [.rp false .str b 0, .rp false .str a 0], .own .u8 0, .int .i64 z, .int .i64 (k : Int)] ∧ H = [.row true .u8 (fillF (sumG a b) z.toNat k)], ⟨rfl, z.toNat, 0, by omega, by omega, rfl, by rw [fill_zero]; rfl⟩, ?_⟩
  rintro nM vs H ⟨k, hc1_0, rfl, rfl, rfl⟩
  refine ⟨fun h0 => ?_, fun h0 => ?_⟩
  · replace h0 : (k : Int) < z := h0
    have hl := fill_len (sumG a b) z.toNat k
    refine ⟨rfl, ⟨by show 0 ≤ (k : Int); first | omega | assumption, by show (k : Int) < (a.length : Int); first | omega | assumption⟩, ⟨by show (0 : Int) ≤ (k : Int); omega, by show (k : Int) < ((fillF (sumG a b) z.toNat k).length : Int); omega⟩, ⟨rfl, rfl⟩, ⟨by show (-9223372036854775808 : Int) ≤ ((k : Int) + 1); omega, by show ((k : Int) + 1) ≤ (9223372036854775807 : Int); omega⟩, ?_⟩
    exact ⟨rfl, z.toNat - (k + 1), by omega, k + 1, by omega, rfl, rfl, by rw [← fill_set _ (by omega : k < z.toNat)]; rfl⟩
  · replace h0 : ¬ ((k : Int) < z) := h0
    rw [show k = z.toNat by omega, fill_all, show z.toNat = a.length by omega]
    exact ⟨rfl, rfl, rfl, rfl⟩
def sGBu : List V → Option (Prop × V × List Blk)
  | [.int .i64 z, .fn 35 [.rp false .u8 c 0, .rp false .str s 0]] => some (z = (s.length : Int) ∧ s.length ≤ 1000000000, .str (scaleB c s), [])
  | [.int .i64 z, .fn 41 [.rp false .str b 0, .rp false .str a 0]] => some (z = (a.length : Int) ∧ a.length ≤ 1000000000, .str (sumF a b), [])
  | _ => none
def CGBu : List (Nat × Con) := (34, pureC [.v (.int .i64), .fn [(35, [.ref .u8, .ref .str]), (41, [.ref .str, .ref .str])]] sGBu) :: CGSm
theorem kGBu : Known Tryd.prog (En CGBu tys G6 []) := kGSm.add Tryd.func34 Tryd.call34 [.k] fun ds p v bs h hp => by
  unfold sGBu at h
  split at h <;> simp only [Option.some.injEq, Prod.mk.injEq, reduceCtorEq] at h
  · obtain ⟨rfl, rfl, rfl⟩ := h
    exact bGBu0 _ _ _ hp.1 hp.2
  · obtain ⟨rfl, rfl, rfl⟩ := h
    exact bGBu1 _ _ _ hp.1 hp.2
def sGScl : List V → Option (Prop × V × List Blk)
  | [.u8 c, .str s] => some (s.length ≤ 1000000000, .str (scaleB c s), [])
  | _ => none
set_option maxHeartbeats 1000000 in
theorem bGScl (c : UInt8) (s : List UInt8) (hp0 : s.length ≤ 1000000000) : bodyP (En CGBu tys G6 []) Tryd.f27 [.k] [.u8 c, .str s] (.str (scaleB c s)) [] := by
  refine ⟨rfl, ⟨by show (s.length : Int) = (s.length : Int); first | omega | assumption, by show s.length ≤ 1000000000; first | omega | assumption⟩, ?_⟩
  exact ⟨rfl, rfl, rfl, rfl⟩
def CGScl : List (Nat × Con) := (27, pureC [.v .u8, .v .str] sGScl) :: CGBu
theorem kGScl : Known Tryd.prog (En CGScl tys G6 []) := kGBu.add Tryd.func27 Tryd.call27 [.k] fun ds p v bs h hp => by
  unfold sGScl at h
  split at h <;> simp only [Option.some.injEq, Prod.mk.injEq, reduceCtorEq] at h
  obtain ⟨rfl, rfl, rfl⟩ := h
  exact bGScl _ _ hp
def sGSum : List V → Option (Prop × V × List Blk)
  | [.str a, .str b] => some (a.length ≤ 1000000000 ∧ b.length ≤ 1000000000, .str (sumB a b), [])
  | _ => none
set_option maxHeartbeats 1000000 in
theorem bGSum (a : List UInt8) (b : List UInt8) (hp0 : a.length ≤ 1000000000) (hp1 : b.length ≤ 1000000000) : bodyP (En CGScl tys G6 []) Tryd.f33 [.k] [.str a, .str b] (.str (sumB a b)) [] := by
  refine ⟨fun h0 => ?_, fun h0 => ?_⟩
  · replace h0 : (a.length : Int) < (b.length : Int) := h0
    refine ⟨⟨rfl, rfl, rfl⟩, ⟨rfl, rfl, rfl⟩, rfl, ⟨by show (b.length : Int) = (b.length : Int); first | omega | assumption, by show b.length ≤ 1000000000; first | omega | assumption⟩, ?_⟩
    rw [show sumB a b = sumF b a from if_pos (by omega)]
    exact ⟨rfl, rfl, rfl, rfl⟩
  · replace h0 : ¬ ((a.length : Int) < (b.length : Int)) := h0
    refine ⟨rfl, ⟨by show (a.length : Int) = (a.length : Int); first | omega | assumption, by show a.length ≤ 1000000000; first | omega | assumption⟩, ?_⟩
    rw [show sumB a b = sumF a b from if_neg (by omega)]
    exact ⟨rfl, rfl, rfl, rfl⟩
def CGSum : List (Nat × Con) := (33, pureC [.v .str, .v .str] sGSum) :: CGScl
theorem kGSum : Known Tryd.prog (En CGSum tys G6 []) := kGScl.add Tryd.func33 Tryd.call33 [.k] fun ds p v bs h hp => by
  unfold sGSum at h
  split at h <;> simp only [Option.some.injEq, Prod.mk.injEq, reduceCtorEq] at h
  obtain ⟨rfl, rfl, rfl⟩ := h
  exact bGSum _ _ hp.1 hp.2
end Go.Proofs.YtcodgflbafanlaaDoor.S27

namespace Go.Proofs.YtcodgflbafanlaaDoor.S27
open Go

/-! ### lists -/
theorem dropD {α : Type} (d : α) (l : List α) (k : Nat) (h : k < l.length) : l.drop k = l.getD k d :: l.drop (k + 1) := by
  rw [List.drop_eq_getElem_cons h]
  simp [List.getD_eq_getElem?_getD, h]
theorem takeD {α : Type} (d : α) (l : List α) (k : Nat) (h : k < l.length) : l.take (k + 1) = l.take k ++ [l.getD k d] := by
  rw [List.take_succ_eq_append_getElem h]
  simp [List.getD_eq_getElem?_getD, h]
theorem getD_mem {α : Type} (d : α) (l : List α) (k : Nat) (h : k < l.length) : l.getD k d ∈ l := by
  simp [List.getD_eq_getElem?_getD, h]
theorem all_bad {α : Type} {d : α} {p : α → Bool} {l : List α} {k : Nat} (hk : k < l.length) (hc : (l.drop k).all p = l.all p) (h : p (l.getD k d) = false) : l.all p = false := by
  rw [← hc, dropD d l k hk, List.all_cons, h, Bool.false_and]
theorem all_next {α : Type} {d : α} {p : α → Bool} {l : List α} {k : Nat} (hk : k < l.length) (hc : (l.drop k).all p = l.all p) (h : p (l.getD k d) = true) : (l.drop (k + 1)).all p = l.all p := by
  rw [← hc, dropD d l k hk, List.all_cons, h, Bool.true_and]
theorem all_stop {α : Type} {p : α → Bool} {l : List α} {k : Nat} (hk : l.length ≤ k) (hc : (l.drop k).all p = l.all p) : l.all p = true := by
  rw [← hc, List.drop_eq_nil_of_le hk]; rfl
theorem drop_cons {α : Type} {l r : List α} {x d : α} {k : Nat} (h : l.drop k = x :: r) : k < l.length ∧ l.getD k d = x ∧ l.drop (k + 1) = r := by
  have hk : k < l.length := by
    rcases Nat.lt_or_ge k l.length with g | g
    · exact g
    · rw [List.drop_eq_nil_of_le g] at h; cases h
  rw [dropD d l k hk] at h
  injection h with h1 h2
  exact ⟨hk, h1, h2⟩
theorem drop_nil {α : Type} {l : List α} {k : Nat} (hk : k ≤ l.length) (h : l.drop k = []) : k = l.length := by
  have := List.drop_eq_nil_iff.1 h; omega

/-! ### rows of strings -/
abbrev Rw := List (List UInt8)
def sumAll (l : Rw) : List UInt8 := (l.drop 1).foldl sumB (l.getD 0 [])
theorem foldl_len {N : Nat} : ∀ (l : Rw) (s : List UInt8), s.length ≤ N → (∀ x ∈ l, x.length ≤ N) → (l.foldl sumB s).length ≤ N
  | [], s, h, _ => h
  | x :: l, s, h, hl => foldl_len l (sumB s x) (by rw [sum_len]; have := hl x (by simp); omega) fun y hy => hl y (by simp [hy])
theorem foldl_snoc (l : Rw) (s : List UInt8) (k : Nat) (h : k < l.length) : (l.take (k + 1)).foldl sumB s = sumB ((l.take k).foldl sumB s) (l.getD k []) := by
  rw [takeD [] l k h, List.foldl_append]; rfl
def atL : Rw → UInt8 → List UInt8
  | [], _ => []
  | [s], _ => s
  | s :: t :: r, x => sumB (scaleB x (atL (t :: r) x)) s
theorem atL_drop (l : Rw) (x : UInt8) (k : Nat) (h : k + 1 < l.length) : atL (l.drop k) x = sumB (scaleB x (atL (l.drop (k + 1)) x)) (l.getD k []) := by
  rw [dropD [] l k (by omega), dropD [] l (k + 1) h]
  rfl
theorem atL_last (l : Rw) (x : UInt8) (h : 1 ≤ l.length) : atL (l.drop (l.length - 1)) x = l.getD (l.length - 1) [] := by
  rw [dropD [] l (l.length - 1) (by omega), show l.length - 1 + 1 = l.length by omega, List.drop_length]; rfl
theorem atL_len {N : Nat} : ∀ (l : Rw) (x : UInt8), (∀ s ∈ l, s.length ≤ N) → (atL l x).length ≤ N
  | [], x, _ => Nat.zero_le _
  | [s], x, h => h s (by simp)
  | s :: t :: r, x, h => by
    rw [atL, sum_len, scale_len]
    have h1 := atL_len (t :: r) x fun y hy => h y (by simp [hy])
    have h2 := h s (by simp)
    omega
theorem drop_all {α : Type} {P : α → Prop} {l : List α} (h : ∀ s ∈ l, P s) (k : Nat) : ∀ s ∈ l.drop k, P s := fun s hs => h s (List.mem_of_mem_drop hs)
theorem two_len {a b : List UInt8} {N : Nat} (h1 : a.length ≤ N) (h2 : b.length ≤ N) : ∀ s ∈ [a, b], s.length ≤ N := fun s hs => by
  rcases List.mem_cons.1 hs with e | hs
  · rw [e]; exact h1
  · rw [List.mem_singleton.1 hs]; exact h2
def pt (h : Int) : UInt8 := UInt8.ofNat ((h + 1) % 256).toNat
def n0 (r : Rw) : Nat := (r.getD 0 []).length
def rightB (r : Rw) : Bool := decide (1 ≤ r.length) && decide (r.length < 12) && r.all fun s => decide (s.length = n0 r) && decide (s.length ≤ 4096)
theorem right_ok {r : Rw} (h : rightB r = true) : 1 ≤ r.length ∧ r.length < 12 ∧ (∀ s ∈ r, s.length = n0 r) ∧ n0 r ≤ 4096 := by
  unfold rightB at h
  simp only [Bool.and_eq_true, decide_eq_true_eq, List.all_eq_true] at h
  obtain ⟨⟨h1, h2⟩, h3⟩ := h
  refine ⟨h1, h2, fun s hs => (h3 s hs).1, ?_⟩
  have := h3 _ (getD_mem [] r 0 (by omega))
  exact this.2
theorem right_len {r : Rw} (h : rightB r = true) : ∀ s ∈ r, s.length ≤ 4096 := fun s hs => by
  obtain ⟨_, _, h3, h4⟩ := right_ok h
  rw [h3 s hs]; exact h4
theorem right_no1 {r : Rw} (h : r.length < 1 ∨ 12 ≤ r.length) : rightB r = false := by
  unfold rightB
  rcases h with h | h
  · rw [decide_eq_false (by omega : ¬ 1 ≤ r.length)]; rfl
  · rw [decide_eq_false (by omega : ¬ r.length < 12)]; simp
theorem right_all {r : Rw} (h1 : 1 ≤ r.length) (h2 : r.length < 12) : rightB r = r.all fun s => decide (s.length = n0 r) && decide (s.length ≤ 4096) := by
  unfold rightB
  rw [decide_eq_true h1, decide_eq_true h2]; rfl
def alikeP (a b : Rw) : Prop := a.length = b.length ∧ n0 a = n0 b
instance (a b : Rw) : Decidable (alikeP a b) := by unfold alikeP; infer_instance
def agrP (a : Rw) (h : Int) (b : Rw) (o : Int) : Prop := atL a (pt o) = atL b (pt h)
instance (a : Rw) (h : Int) (b : Rw) (o : Int) : Decidable (agrP a h b o) := by unfold agrP; infer_instance
def knw (h : Int) : Prop := 0 ≤ h ∧ h < 12
instance (h : Int) : Decidable (knw h) := by unfold knw; infer_instance
def valE (r : Rw) (h : Int) : Int := if rightB r = true then (if knw h then 0 else 8) else 1
def valS (r : Rw) (h : Int) : List UInt8 := if valE r h = 0 then atL r (pt h) else []
def agE (a : Rw) (h : Int) (b : Rw) (o : Int) : Int := if rightB a = true ∧ rightB b = true ∧ alikeP a b then (if knw h ∧ knw o then 0 else 8) else 1
def agQ (a : Rw) (h : Int) (b : Rw) (o : Int) : Prop := agE a h b o = 0 ∧ agrP a h b o
instance (a : Rw) (h : Int) (b : Rw) (o : Int) : Decidable (agQ a h b o) := by unfold agQ; infer_instance
end Go.Proofs.YtcodgflbafanlaaDoor.S27

namespace Go.Proofs.YtcodgflbafanlaaDoor.S27
open Go Go.Proofs.YtcodgflbafanlaaDoor.Vc Go.Proofs
set_option maxRecDepth 100000
set_option linter.unusedVariables false

def sKnw : List V → Option (Prop × V × List Blk)
  | [.int .i64 h] => some (True, .b (knw h), [])
  | _ => none
set_option maxHeartbeats 1000000 in
theorem bKnw (h : Int)  : bodyP (En CGSum tys G6 []) Tryd.f21 [.k] [.int .i64 h] (.b (knw h)) [] := by
  refine ⟨fun h0 => ?_, fun h0 => ?_⟩
  · replace h0 : 0 ≤ h := h0
    exact ⟨rfl, rfl, congrArg V.b (propext (by unfold knw; constructor <;> intro g <;> first | omega | exact Bool.noConfusion g | (exfalso; omega))), rfl⟩
  · replace h0 : ¬ (0 ≤ h) := h0
    exact ⟨rfl, rfl, congrArg V.b (propext (by unfold knw; constructor <;> intro g <;> first | omega | exact Bool.noConfusion g | (exfalso; omega))), rfl⟩
def CKnw : List (Nat × Con) := (21, pureC [.v (.int .i64)] sKnw) :: CGSum
theorem kKnw : Known Tryd.prog (En CKnw tys G6 []) := kGSum.add Tryd.func21 Tryd.call21 [.k] fun ds p v bs h hp => by
  unfold sKnw at h
  split at h <;> simp only [Option.some.injEq, Prod.mk.injEq, reduceCtorEq] at h
  obtain ⟨rfl, rfl, rfl⟩ := h
  exact bKnw _
def sSumA : List V → Option (Prop × V × List Blk)
  | [.sl false .str l] => some (1 ≤ l.length ∧ l.length ≤ 1000000 ∧ (∀ x ∈ l, x.length ≤ 1048576), .str (sumAll l), [])
  | _ => none
set_option maxHeartbeats 1000000 in
theorem bSumA (l : List (List UInt8)) (hp0 : 1 ≤ l.length) (hp1 : l.length ≤ 1000000) (hp2 : (∀ x ∈ l, x.length ≤ 1048576)) : bodyP (En CKnw tys G6 []) Tryd.f26 [.k] [.sl false .str l] (.str (sumAll l)) [] := by
  have hld : (l.drop 1).length = l.length - 1 := List.length_drop ..
  have hm0 : (l.getD 0 []).length ≤ 1048576 := hp2 _ (getD_mem [] l 0 (by omega))
  refine ⟨⟨by show (0 : Int) ≤ 0; omega, by show 0 < (l.length : Int); omega⟩, ⟨by omega, by omega⟩, 0, [(3, .k), (10, .k), (11, .k), (12, .k)], fun nM vs H => ∃ (k : Nat), k ≤ (l.drop 1).length ∧ nM = (l.drop 1).length - k ∧ vs = [.str (((l.drop 1).take k).foldl sumB (l.getD 0 [])), .sl false .str (l.drop 1), .int .i64 (((l.drop 1).length : Nat) : Int), .int .i64 (k : Int)] ∧ H = [], ⟨rfl, (l.drop 1).length, 0, by omega, by omega, rfl, rfl⟩, ?_⟩
  rintro nM vs H ⟨k, hc1_0, rfl, rfl, rfl⟩
  refine ⟨fun h0 => ?_, fun h0 => ?_⟩
  · replace h0 : (k : Int) < (((l.drop 1).length : Nat) : Int) := h0
    have hs : ((l.drop 1).drop k) = (l.drop 1).drop k := rfl
    have hm1 := foldl_len (N := 1048576) ((l.drop 1).take k) (l.getD 0 []) hm0 fun x hx => drop_all hp2 1 x (List.mem_of_mem_take hx)
    have hm2 := drop_all hp2 1 _ (getD_mem [] (l.drop 1) k (by omega))
    refine ⟨⟨by show (0 : Int) ≤ (k : Int); omega, by show (k : Int) < ((l.drop 1).length : Int); omega⟩, ⟨by show (((l.drop 1).take k).foldl sumB (l.getD 0 [])).length ≤ 1000000000; first | omega | assumption | (simp only [List.length_cons, List.length_nil, List.length_append, List.length_take, List.length_drop, List.length_set, List.length_replicate]; omega), by show ((l.drop 1).getD k []).length ≤ 1000000000; first | omega | assumption | (simp only [List.length_cons, List.length_nil, List.length_append, List.length_take, List.length_drop, List.length_set, List.length_replicate]; omega)⟩, ⟨by show (-9223372036854775808 : Int) ≤ ((k : Int) + 1); omega, by show ((k : Int) + 1) ≤ (9223372036854775807 : Int); omega⟩, ?_⟩
    exact ⟨rfl, (l.drop 1).length - (k + 1), by omega, k + 1, by omega, rfl, by rw [foldl_snoc _ _ _ (by omega : k < (l.drop 1).length)]; rfl, rfl⟩
  · replace h0 : ¬ ((k : Int) < (((l.drop 1).length : Nat) : Int)) := h0
    rw [show sumAll l = ((l.drop 1).take k).foldl sumB (l.getD 0 []) by rw [List.take_of_length_le (by omega)]; rfl]
    exact ⟨rfl, rfl, rfl, rfl⟩
def CSumA : List (Nat × Con) := (26, pureC [.v (.sl .str)] sSumA) :: CKnw
theorem kSumA : Known Tryd.prog (En CSumA tys G6 []) := kKnw.add Tryd.func26 Tryd.call26 [.k] fun ds p v bs h hp => by
  unfold sSumA at h
  split at h <;> simp only [Option.some.injEq, Prod.mk.injEq, reduceCtorEq] at h
  obtain ⟨rfl, rfl, rfl⟩ := h
  exact bSumA _ hp.1 hp.2.1 hp.2.2
def sAt : List V → Option (Prop × V × List Blk)
  | [.sl false .str l, .u8 x] => some (1 ≤ l.length ∧ l.length ≤ 1000000 ∧ (∀ x ∈ l, x.length ≤ 1048576), .str (atL l x), [])
  | _ => none
set_option maxHeartbeats 1000000 in
theorem bAt (l : List (List UInt8)) (x : UInt8) (hp0 : 1 ≤ l.length) (hp1 : l.length ≤ 1000000) (hp2 : (∀ x ∈ l, x.length ≤ 1048576)) : bodyP (En CSumA tys G6 []) Tryd.f22 [.k] [.sl false .str l, .u8 x] (.str (atL l x)) [] := by
  refine ⟨⟨by show (-9223372036854775808 : Int) ≤ ((l.length : Int) - 1); omega, by show ((l.length : Int) - 1) ≤ (9223372036854775807 : Int); omega⟩, ⟨by show (0 : Int) ≤ ((l.length : Int) - 1); omega, by show ((l.length : Int) - 1) < (l.length : Int); omega⟩, ⟨by show (-9223372036854775808 : Int) ≤ ((l.length : Int) - 2); omega, by show ((l.length : Int) - 2) ≤ (9223372036854775807 : Int); omega⟩, 0, [(0, .k), (1, .k), (5, .k), (6, .k)], fun nM vs H => ∃ (k : Nat), k < l.length ∧ nM = k + 1 ∧ vs = [.sl false .str l, .u8 x, .str (atL (l.drop k) x), .int .i64 ((k : Int) - 1)] ∧ H = [], ⟨rfl, l.length - 1 + 1, l.length - 1, by omega, by omega, by rw [atL_last l x hp0, show ((l.length - 1 : Nat) : Int) - 1 = (l.length : Int) - 2 by omega, show l.length - 1 = ((l.length : Int) - 1).toNat by omega]; rfl, rfl⟩, ?_⟩
  rintro nM vs H ⟨k, hc1_0, rfl, rfl, rfl⟩
  refine ⟨fun h0 => ?_, fun h0 => ?_⟩
  · replace h0 : 0 ≤ ((k : Int) - 1) := h0
    obtain ⟨j, hj⟩ : ∃ j, k = j + 1 := ⟨k - 1, by omega⟩
    have ek : ((k : Int) - 1).toNat = j := by omega
    have hl1 := atL_len (N := 1048576) (l.drop k) x (drop_all hp2 k)
    have hl2 := hp2 _ (getD_mem [] l j (by omega))
    refine ⟨by kernel_rfl, by show (atL (l.drop k) x).length ≤ 1000000000; first | omega | assumption | (simp only [List.length_cons, List.length_nil, List.length_append, List.length_take, List.length_drop, List.length_set, List.length_replicate]; omega), ⟨by show (0 : Int) ≤ (k : Int) - 1; omega, by show (k : Int) - 1 < (l.length : Int); omega⟩, ⟨by show 1 ≤ ([scaleB x (atL (l.drop k) x), l.getD (((k : Int) - 1).toNat) []] : List (List UInt8)).length; first | omega | assumption | (simp only [List.length_cons, List.length_nil, List.length_append, List.length_take, List.length_drop, List.length_set, List.length_replicate]; omega), by show ([scaleB x (atL (l.drop k) x), l.getD (((k : Int) - 1).toNat) []] : List (List UInt8)).length ≤ 1000000; first | omega | assumption | (simp only [List.length_cons, List.length_nil, List.length_append, List.length_take, List.length_drop, List.length_set, List.length_replicate]; omega), by rw [ek]; exact two_len (by rw [scale_len]; exact hl1) hl2⟩, ⟨by show (-9223372036854775808 : Int) ≤ (((k : Int) - 1) - 1); omega, by show (((k : Int) - 1) - 1) ≤ (9223372036854775807 : Int); omega⟩, ?_⟩
    exact ⟨rfl, j + 1, by omega, j, by omega, rfl, by (subst hj; have ej : ((j + 1 : Nat) : Int) - 1 = (j : Int) := (by omega); rw [ej, atL_drop l x j (by omega)]; rfl), rfl⟩
  · replace h0 : ¬ (0 ≤ ((k : Int) - 1)) := h0
    rw [show k = 0 by omega]
    exact ⟨rfl, rfl, rfl, rfl⟩
def CAt : List (Nat × Con) := (22, pureC [.v (.sl .str), .v .u8] sAt) :: CSumA
theorem kAt : Known Tryd.prog (En CAt tys G6 []) := kSumA.add Tryd.func22 Tryd.call22 [.k] fun ds p v bs h hp => by
  unfold sAt at h
  split at h <;> simp only [Option.some.injEq, Prod.mk.injEq, reduceCtorEq] at h
  obtain ⟨rfl, rfl, rfl⟩ := h
  exact bAt _ _ hp.1 hp.2.1 hp.2.2
def sRgt : List V → Option (Prop × V × List Blk)
  | [.sl false .str r] => some (r.length ≤ 1048576, .b (rightB r = true), [])
  | _ => none
set_option maxHeartbeats 1000000 in
theorem bRgt (r : List (List UInt8)) (hp0 : r.length ≤ 1048576) : bodyP (En CAt tys G6 []) Tryd.f25 [.k] [.sl false .str r] (.b (rightB r = true)) [] := by
  refine ⟨fun h0 => ?_, fun h0 => ?_⟩
  · replace h0 : ¬ ((r.length : Int) < 1) := h0
    refine ⟨fun h1 => ?_, fun h1 => ?_⟩
    · replace h1 : 12 ≤ (r.length : Int) := h1
      rw [right_no1 (r := r) (.inr (by omega))]
      exact ⟨rfl, rfl, rfl, rfl⟩
    · replace h1 : ¬ (12 ≤ (r.length : Int)) := h1
      have hall := right_all (r := r) (by omega) (by omega)
      refine ⟨0, [(0, .k), (13, .k), (14, .k), (15, .k)], fun nM vs H => ∃ (k : Nat), k ≤ r.length ∧ (r.drop k).all (fun s => decide (s.length = n0 r) && decide (s.length ≤ 4096)) = r.all (fun s => decide (s.length = n0 r) && decide (s.length ≤ 4096)) ∧ nM = r.length - k ∧ vs = [.sl false .str r, .sl false .str r, .int .i64 (r.length : Int), .int .i64 (k : Int)] ∧ H = [], ⟨rfl, r.length, 0, by omega, rfl, by omega, rfl, rfl⟩, ?_⟩
      rintro nM vs H ⟨k, hc1_0, hc1_1, rfl, rfl, rfl⟩
      refine ⟨fun h2 => ?_, fun h2 => ?_⟩
      · replace h2 : (k : Int) < (r.length : Int) := h2
        have hk : k < r.length := by omega
        refine ⟨⟨by show (0 : Int) ≤ (k : Int); omega, by show (k : Int) < (r.length : Int); omega⟩, ⟨by show (0 : Int) ≤ 0; omega, by show 0 < (r.length : Int); omega⟩, fun h3 => ?_, fun h3 => ?_⟩
        · replace h3 : ¬ ((((r.getD k []).length : Nat) : Int) ≠ (((r.getD 0 []).length : Nat) : Int)) := h3
          refine ⟨fun h4 => ?_, fun h4 => ?_⟩
          · replace h4 : 4096 < (((r.getD k []).length : Nat) : Int) := h4
            have e : rightB r = false := by rw [hall]; exact all_bad (d := []) hk hc1_1 (by show (decide ((r.getD k []).length = n0 r) && decide ((r.getD k []).length ≤ 4096)) = false; rw [decide_eq_false (by omega : ¬ (r.getD k []).length ≤ 4096), Bool.and_false])
            rw [e]
            exact ⟨rfl, rfl, rfl, rfl⟩
          · replace h4 : ¬ (4096 < (((r.getD k []).length : Nat) : Int)) := h4
            have hok : (decide ((r.getD k []).length = n0 r) && decide ((r.getD k []).length ≤ 4096)) = true := by rw [decide_eq_true (by unfold n0; omega : (r.getD k []).length = n0 r), decide_eq_true (by omega : (r.getD k []).length ≤ 4096)]; rfl
            refine ⟨⟨by show (-9223372036854775808 : Int) ≤ ((k : Int) + 1); omega, by show ((k : Int) + 1) ≤ (9223372036854775807 : Int); omega⟩, ?_⟩
            exact ⟨rfl, r.length - (k + 1), by omega, k + 1, by omega, all_next (d := []) hk hc1_1 hok, rfl, rfl, rfl⟩
        · replace h3 : (((r.getD k []).length : Nat) : Int) ≠ (((r.getD 0 []).length : Nat) : Int) := h3
          have e : rightB r = false := by rw [hall]; exact all_bad (d := []) hk hc1_1 (by show (decide ((r.getD k []).length = n0 r) && decide ((r.getD k []).length ≤ 4096)) = false; rw [decide_eq_false (by unfold n0; omega : ¬ (r.getD k []).length = n0 r), Bool.false_and])
          rw [e]
          exact ⟨rfl, rfl, rfl, rfl⟩
      · replace h2 : ¬ ((k : Int) < (r.length : Int)) := h2
        have e : rightB r = true := by rw [hall]; exact all_stop (by omega) hc1_1
        rw [e]
        exact ⟨rfl, rfl, rfl, rfl⟩
  · replace h0 : (r.length : Int) < 1 := h0
    rw [right_no1 (r := r) (.inl (by omega))]
    exact ⟨rfl, rfl, rfl, rfl⟩
def CRgt : List (Nat × Con) := (25, pureC [.v (.sl .str)] sRgt) :: CAt
theorem kRgt : Known Tryd.prog (En CRgt tys G6 []) := kAt.add Tryd.func25 Tryd.call25 [.k] fun ds p v bs h hp => by
  unfold sRgt at h
  split at h <;> simp only [Option.some.injEq, Prod.mk.injEq, reduceCtorEq] at h
  obtain ⟨rfl, rfl, rfl⟩ := h
  exact bRgt _ hp
def sAlk : List V → Option (Prop × V × List Blk)
  | [.sl false .str a, .sl false .str b] => some (1 ≤ a.length ∧ 1 ≤ b.length, .b (alikeP a b), [])
  | _ => none
set_option maxHeartbeats 1000000 in
theorem bAlk (a : List (List UInt8)) (b : List (List UInt8)) (hp0 : 1 ≤ a.length) (hp1 : 1 ≤ b.length) : bodyP (En CRgt tys G6 []) Tryd.f28 [.k] [.sl false .str a, .sl false .str b] (.b (alikeP a b)) [] := by
  refine ⟨by kernel_rfl, fun h0 => ?_, fun h0 => ?_⟩
  · replace h0 : (a.length : Int) = (b.length : Int) := h0
    refine ⟨fun h1 => ?_, fun h1 => absurd (show (a.length : Int) = (b.length : Int) by first | omega | assumption | simp_all) h1⟩
    refine ⟨⟨by show (0 : Int) ≤ 0; omega, by show 0 < (a.length : Int); omega⟩, fun h2 => ?_, fun h2 => absurd (show (a.length : Int) = (b.length : Int) by first | omega | assumption | simp_all) h2⟩
    refine ⟨fun h3 => ?_, fun h3 => absurd (show (a.length : Int) = (b.length : Int) by first | omega | assumption | simp_all) h3⟩
    refine ⟨fun h4 => ?_, fun h4 => absurd (show (a.length : Int) = (b.length : Int) by first | omega | assumption | simp_all) h4⟩
    refine ⟨fun h5 => ?_, fun h5 => absurd (show (a.length : Int) = (b.length : Int) by first | omega | assumption | simp_all) h5⟩
    refine ⟨⟨by show (0 : Int) ≤ 0; omega, by show 0 < (b.length : Int); omega⟩, fun h6 => ?_, fun h6 => absurd (show (a.length : Int) = (b.length : Int) by first | omega | assumption | simp_all) h6⟩
    refine ⟨fun h7 => ?_, fun h7 => absurd (show (a.length : Int) = (b.length : Int) by first | omega | assumption | simp_all) h7⟩
    refine ⟨fun h8 => ?_, fun h8 => absurd (show (a.length : Int) = (b.length : Int) by first | omega | assumption | simp_all) h8⟩
    refine ⟨fun h9 => ?_, fun h9 => absurd (show (a.length : Int) = (b.length : Int) by first | omega | assumption | simp_all) h9⟩
    exact ⟨rfl, rfl, congrArg V.b (propext (show ((((a.getD 0 []).length : Nat) : Int) = (((b.getD 0 []).length : Nat) : Int)) ↔ alikeP a b by unfold alikeP n0; constructor <;> intro g <;> omega)), rfl⟩
  · replace h0 : ¬ ((a.length : Int) = (b.length : Int)) := h0
    refine ⟨fun h10 => absurd h10 (show ¬ ((a.length : Int) = (b.length : Int)) by first | omega | assumption | simp_all), fun h10 => ?_⟩
    refine ⟨fun h11 => absurd h11 (show ¬ ((a.length : Int) = (b.length : Int)) by first | omega | assumption | simp_all), fun h11 => ?_⟩
    refine ⟨fun h12 => absurd h12 (show ¬ ((a.length : Int) = (b.length : Int)) by first | omega | assumption | simp_all), fun h12 => ?_⟩
    refine ⟨fun h13 => absurd h13 (show ¬ ((a.length : Int) = (b.length : Int)) by first | omega | assumption | simp_all), fun h13 => ?_⟩
    refine ⟨fun h14 => absurd h14 (show ¬ ((a.length : Int) = (b.length : Int)) by first | omega | assumption | simp_all), fun h14 => ?_⟩
    refine ⟨fun h15 => absurd h15 (show ¬ ((a.length : Int) = (b.length : Int)) by first | omega | assumption | simp_all), fun h15 => ?_⟩
    refine ⟨fun h16 => absurd h16 (show ¬ ((a.length : Int) = (b.length : Int)) by first | omega | assumption | simp_all), fun h16 => ?_⟩
    refine ⟨fun h17 => absurd h17 (show ¬ ((a.length : Int) = (b.length : Int)) by first | omega | assumption | simp_all), fun h17 => ?_⟩
    refine ⟨fun h18 => absurd h18 (show ¬ ((a.length : Int) = (b.length : Int)) by first | omega | assumption | simp_all), fun h18 => ?_⟩
    exact ⟨rfl, rfl, congrArg V.b (propext (by unfold alikeP; constructor <;> intro g <;> first | exact Bool.noConfusion g | (exfalso; omega))), rfl⟩
def CAlk : List (Nat × Con) := (28, pureC [.v (.sl .str), .v (.sl .str)] sAlk) :: CRgt
theorem kAlk : Known Tryd.prog (En CAlk tys G6 []) := kRgt.add Tryd.func28 Tryd.call28 [.k] fun ds p v bs h hp => by
  unfold sAlk at h
  split at h <;> simp only [Option.some.injEq, Prod.mk.injEq, reduceCtorEq] at h
  obtain ⟨rfl, rfl, rfl⟩ := h
  exact bAlk _ _ hp.1 hp.2
def sAgr : List V → Option (Prop × V × List Blk)
  | [.sl false .str a, .int .i64 h, .sl false .str b, .int .i64 o] => some (1 ≤ a.length ∧ a.length ≤ 1000000 ∧ (∀ x ∈ a, x.length ≤ 1048576) ∧ 1 ≤ b.length ∧ b.length ≤ 1000000 ∧ (∀ x ∈ b, x.length ≤ 1048576) ∧ knw h ∧ knw o, .b (agrP a h b o), [])
  | _ => none
set_option maxHeartbeats 1000000 in
theorem bAgr (a : List (List UInt8)) (h : Int) (b : List (List UInt8)) (o : Int) (hp0 : 1 ≤ a.length) (hp1 : a.length ≤ 1000000) (hp2 : (∀ x ∈ a, x.length ≤ 1048576)) (hp3 : 1 ≤ b.length) (hp4 : b.length ≤ 1000000) (hp5 : (∀ x ∈ b, x.length ≤ 1048576)) (hp6 : knw h) (hp7 : knw o) : bodyP (En CAlk tys G6 []) Tryd.f29 [.k] [.sl false .str a, .int .i64 h, .sl false .str b, .int .i64 o] (.b (agrP a h b o)) [] := by
  obtain ⟨hk1, hk2⟩ := hp6
  obtain ⟨hk3, hk4⟩ := hp7
  refine ⟨⟨by show (-9223372036854775808 : Int) ≤ (o + 1); omega, by show (o + 1) ≤ (9223372036854775807 : Int); omega⟩, ⟨by show 1 ≤ a.length; first | omega | assumption, by show a.length ≤ 1000000; first | omega | assumption, by first | assumption | simp⟩, ⟨by show (-9223372036854775808 : Int) ≤ (h + 1); omega, by show (h + 1) ≤ (9223372036854775807 : Int); omega⟩, ⟨by show 1 ≤ b.length; first | omega | assumption, by show b.length ≤ 1000000; first | omega | assumption, by first | assumption | simp⟩, ?_⟩
  exact ⟨rfl, rfl, rfl, rfl⟩
def CAgr : List (Nat × Con) := (29, pureC [.v (.sl .str), .v (.int .i64), .v (.sl .str), .v (.int .i64)] sAgr) :: CAlk
theorem kAgr : Known Tryd.prog (En CAgr tys G6 []) := kAlk.add Tryd.func29 Tryd.call29 [.k] fun ds p v bs h hp => by
  unfold sAgr at h
  split at h <;> simp only [Option.some.injEq, Prod.mk.injEq, reduceCtorEq] at h
  obtain ⟨rfl, rfl, rfl⟩ := h
  exact bAgr _ _ _ _ hp.1 hp.2.1 hp.2.2.1 hp.2.2.2.1 hp.2.2.2.2.1 hp.2.2.2.2.2.1 hp.2.2.2.2.2.2.1 hp.2.2.2.2.2.2.2
end Go.Proofs.YtcodgflbafanlaaDoor.S27

namespace Go.Proofs.YtcodgflbafanlaaDoor.S27
open Go

/-! ### deals -/
def n00 (cf : List Rw) : Nat := n0 (cf.getD 0 [])
def lenB (cf : List Rw) (l : Rw) : Bool := decide (l.length = cf.length) && decide ((cf.getD 0 []).length = cf.length) && l.all fun s => decide (s.length = n00 cf)
def symB (cf : List Rw) (m : Nat) : Bool := (List.range m).all fun a => (List.range a).all fun b => decide ((cf.getD a []).getD b [] = (cf.getD b []).getD a [])
def chkD (need : Int) (cf : List Rw) : Int :=
  if need < 2 ∨ 12 < need then 3 else if (cf.length : Int) ≠ need - 1 then 1 else if cf.all (lenB cf) = false then 1 else if 4096 < n00 cf then 2 else if symB cf cf.length = false then 1 else 0
structure Deal (need : Int) (cf : List Rw) : Prop where
  n2 : 2 ≤ need
  n12 : need ≤ 12
  len : (cf.length : Int) = need - 1
  rows : ∀ l ∈ cf, l.length = cf.length
  strs : ∀ l ∈ cf, ∀ s ∈ l, s.length = n00 cf
  max : n00 cf ≤ 4096
  sym : ∀ a b, a < cf.length → b < cf.length → (cf.getD a []).getD b [] = (cf.getD b []).getD a []
theorem all_false {α : Type} {p : α → Bool} {l : List α} (h : ¬ l.all p = false) : ∀ x ∈ l, p x = true := fun x hx => by
  have : l.all p = true := by simpa using h
  exact List.all_eq_true.1 this x hx
theorem chkD0 {need : Int} {cf : List Rw} (h : chkD need cf = 0) : Deal need cf := by
  unfold chkD at h
  split at h
  · cases h
  · split at h
    · cases h
    · split at h
      · cases h
      · split at h
        · cases h
        · split at h
          · cases h
          · rename_i h1 h2 h3 h4 h5
            have h3 := all_false h3
            have hl : ∀ l ∈ cf, l.length = cf.length ∧ ∀ s ∈ l, s.length = n00 cf := fun l hl => by
              have := h3 l hl
              unfold lenB at this
              simp only [Bool.and_eq_true, decide_eq_true_eq, List.all_eq_true] at this
              exact ⟨this.1.1, this.2⟩
            have hs : ∀ a b, a < cf.length → b < a → (cf.getD a []).getD b [] = (cf.getD b []).getD a [] := fun a b ha hb => by
              have := all_false h5 a (List.mem_range.2 ha)
              simp only [List.all_eq_true, decide_eq_true_eq] at this
              exact this b (List.mem_range.2 hb)
            refine ⟨by omega, by omega, by omega, fun l h => (hl l h).1, fun l h => (hl l h).2, by omega, fun a b ha hb => ?_⟩
            rcases Nat.lt_trichotomy a b with g | g | g
            · exact (hs b a hb g).symm
            · subst g; rfl
            · exact hs a b ha g
def rowD (cf : List Rw) (h : Int) : Rw := cf.map fun l => atL l (pt h)
def rowE (need : Int) (cf : List Rw) (h : Int) : Int := if chkD need cf = 0 then (if knw h then 0 else 8) else chkD need cf
def rowL (need : Int) (cf : List Rw) (h : Int) : Rw := if rowE need cf h = 0 then rowD cf h else []
theorem map_take_snoc {α β : Type} (d : α) (f : α → β) (l : List α) (k : Nat) (h : k < l.length) : (l.take (k + 1)).map f = (l.take k).map f ++ [f (l.getD k d)] := by
  rw [takeD d l k h, List.map_append]; rfl

theorem rangeBad {p : Nat → Bool} {k m : Nat} (hk : k < m) (h : p k = false) : (List.range m).all p = false := by
  rw [Bool.eq_false_iff]
  intro e
  rw [List.all_eq_true.1 e k (List.mem_range.2 hk)] at h
  cases h
theorem rangeAll {p : Nat → Bool} {k : Nat} (h : (List.range k).all p = true) (hk : p k = true) : (List.range (k + 1)).all p = true := by
  rw [List.range_succ, List.all_append, h, List.all_cons, hk]; rfl
theorem lenB_bad1 {cf : List Rw} {l : Rw} (h : ¬ l.length = cf.length) : lenB cf l = false := by unfold lenB; rw [decide_eq_false h, Bool.false_and, Bool.false_and]
theorem lenB_bad2 {cf : List Rw} {l : Rw} (h : ¬ (cf.getD 0 []).length = cf.length) : lenB cf l = false := by unfold lenB; rw [decide_eq_false h, Bool.and_false, Bool.false_and]
theorem lenB_bad3 {cf : List Rw} {l : Rw} (h : (l.all fun s => decide (s.length = n00 cf)) = false) : lenB cf l = false := by unfold lenB; rw [h, Bool.and_false]
theorem lenB_yes {cf : List Rw} {l : Rw} (h1 : l.length = cf.length) (h2 : (cf.getD 0 []).length = cf.length) (h : (l.all fun s => decide (s.length = n00 cf)) = true) : lenB cf l = true := by unfold lenB; rw [h, decide_eq_true h1, decide_eq_true h2]; rfl
theorem lenB_len {cf : List Rw} (h : cf.all (lenB cf) = true) : ∀ l ∈ cf, l.length = cf.length := fun l hl => by
  have := List.all_eq_true.1 h l hl
  unfold lenB at this
  simp only [Bool.and_eq_true, decide_eq_true_eq] at this
  exact this.1.1

/-! ### a share renewed -/
def updB (h : Int) (b : List UInt8) (rows : List Rw) : List UInt8 := rows.foldl (fun s r => sumB s (scaleB (pt h) (r.getD 0 []))) b
def updOk (b : List UInt8) (r : Rw) : Bool := rightB r && decide (n0 r = b.length)
def updE (h : Int) (b : List UInt8) (rows : List Rw) : Int := if knw h then (if b.length ≤ 4096 then (if rows.all (updOk b) = true then 0 else 1) else 2) else 8
theorem upd_len {h : Int} {b : List UInt8} : ∀ (rows : List Rw) (s : List UInt8), s.length = b.length → (∀ r ∈ rows, updOk b r = true) → (updB h s rows).length = b.length
  | [], s, hs, _ => hs
  | r :: rows, s, hs, hr => by
    have h1 := hr r (by simp)
    unfold updOk at h1
    simp only [Bool.and_eq_true, decide_eq_true_eq] at h1
    have h2 : (r.getD 0 []).length = b.length := h1.2
    exact upd_len rows _ (by rw [sum_len, scale_len]; omega) fun x hx => hr x (by simp [hx])

theorem upd_snoc {h : Int} {b : List UInt8} {rows : List Rw} {k : Nat} (hk : k < rows.length) : updB h b (rows.take (k + 1)) = sumB (updB h b (rows.take k)) (scaleB (pt h) ((rows.getD k []).getD 0 [])) := by
  unfold updB
  rw [takeD [] rows k hk, List.foldl_append]; rfl
def updH (h : Int) (b : List UInt8) (rows : List Rw) : Int := if updE h b rows = 0 then h else 0
def updS (h : Int) (b : List UInt8) (rows : List Rw) : List UInt8 := if updE h b rows = 0 then updB h b rows else []
theorem updOk_bad1 {b : List UInt8} {r : Rw} (h : ¬ rightB r = true) : updOk b r = false := by unfold updOk; rw [Bool.eq_false_iff.2 h]; rfl
theorem updOk_bad2 {b : List UInt8} {r : Rw} (h : ¬ n0 r = b.length) : updOk b r = false := by unfold updOk; rw [decide_eq_false h, Bool.and_false]
theorem updOk_yes {b : List UInt8} {r : Rw} (h1 : rightB r = true) (h : n0 r = b.length) : updOk b r = true := by unfold updOk; rw [h1, decide_eq_true h]; rfl
theorem updOk_no {b : List UInt8} {r : Rw} (h : updOk b r = true) : rightB r = true ∧ n0 r = b.length := by
  unfold updOk at h
  simp only [Bool.and_eq_true, decide_eq_true_eq] at h
  exact h

/-! ### pairs of houses -/
def prOk (rows : List Rw) (a b : Nat) : Bool := decide (0 < (rows.getD a []).length ∧ 0 < (rows.getD b []).length)
def prJ (rows : List Rw) (a : Nat) : Nat → Nat → List (Nat × Nat)
  | 0, _ => []
  | m + 1, b => if prOk rows a b = true then (a, b) :: prJ rows a m (b + 1) else prJ rows a m (b + 1)
def prA (rows : List Rw) : Nat → Nat → List (Nat × Nat)
  | 0, _ => []
  | m + 1, a => prJ rows a (rows.length - (a + 1)) (a + 1) ++ prA rows m (a + 1)
def pairsL (rows : List Rw) : List (Nat × Nat) := prA rows rows.length 0
theorem prJ_mem {rows : List Rw} {a : Nat} : ∀ (m b : Nat) (p : Nat × Nat), p ∈ prJ rows a m b ↔ (p.1 = a ∧ b ≤ p.2 ∧ p.2 < b + m ∧ prOk rows p.1 p.2 = true)
  | 0, b, p => by simp [prJ]; omega
  | m + 1, b, p => by
    unfold prJ
    split
    · rename_i h
      rw [List.mem_cons, prJ_mem m (b + 1) p]
      constructor
      · rintro (rfl | ⟨h1, h2, h3, h4⟩)
        · exact ⟨rfl, Nat.le_refl _, by simp, h⟩
        · exact ⟨h1, by omega, by omega, h4⟩
      · rintro ⟨h1, h2, h3, h4⟩
        by_cases e : p.2 = b
        · exact .inl (by rw [← h1, ← e])
        · exact .inr ⟨h1, by omega, by omega, h4⟩
    · rename_i h
      rw [prJ_mem m (b + 1) p]
      constructor
      · rintro ⟨h1, h2, h3, h4⟩
        exact ⟨h1, by omega, by omega, h4⟩
      · rintro ⟨h1, h2, h3, h4⟩
        refine ⟨h1, ?_, by omega, h4⟩
        rcases Nat.lt_or_ge b p.2 with g | g
        · exact g
        · have : p.2 = b := by omega
          rw [h1, this] at h4
          exact absurd h4 h
theorem prA_mem {rows : List Rw} : ∀ (m a : Nat) (p : Nat × Nat), a + m = rows.length → (p ∈ prA rows m a ↔ (a ≤ p.1 ∧ p.1 < p.2 ∧ p.2 < rows.length ∧ prOk rows p.1 p.2 = true))
  | 0, a, p, h => by simp [prA]; omega
  | m + 1, a, p, h => by
    unfold prA
    rw [List.mem_append, prJ_mem, prA_mem m (a + 1) p (by omega)]
    constructor
    · rintro (⟨h1, h2, h3, h4⟩ | ⟨h1, h2, h3, h4⟩)
      · exact ⟨by omega, by omega, by omega, h4⟩
      · exact ⟨by omega, by omega, by omega, h4⟩
    · rintro ⟨h1, h2, h3, h4⟩
      by_cases e : p.1 = a
      · exact .inl ⟨e, by omega, by omega, h4⟩
      · exact .inr ⟨by omega, by omega, by omega, h4⟩
theorem pairs_mem {rows : List Rw} {p : Nat × Nat} : p ∈ pairsL rows ↔ p.1 < p.2 ∧ p.2 < rows.length ∧ 0 < (rows.getD p.1 []).length ∧ 0 < (rows.getD p.2 []).length := by
  unfold pairsL
  rw [prA_mem _ _ _ (by omega)]
  unfold prOk
  rw [decide_eq_true_eq]
  constructor
  · rintro ⟨h1, h2, h3, h4⟩; exact ⟨h2, h3, h4⟩
  · rintro ⟨h2, h3, h4⟩; exact ⟨Nat.zero_le _, h2, h3, h4⟩
def prI (p : Nat × Nat) : List Int := [(p.1 : Int), (p.2 : Int)]
def alkB (rows : List Rw) (p : Nat × Nat) : Bool := decide (alikeP (rows.getD p.1 []) (rows.getD p.2 []))
def oddB (rows : List Rw) (p : Nat × Nat) : Bool := !decide (agrP (rows.getD p.1 []) (p.1 : Int) (rows.getD p.2 []) (p.2 : Int))
def rgtB (r : Rw) : Bool := decide (r.length = 0) || rightB r
def cmpE (rows : List Rw) : Int := if 12 < rows.length then 2 else if rows.all rgtB = false then 1 else if (pairsL rows).all (alkB rows) = false then 1 else 0
def cmpO (rows : List Rw) (l : List (Nat × Nat)) : List (List Int) := (l.filter (oddB rows)).map prI
def cmpL (rows : List Rw) : List (List Int) := if cmpE rows = 0 then cmpO rows (pairsL rows) else []
theorem cmpO_snoc (rows : List Rw) (l : List (Nat × Nat)) (k : Nat) (h : k < l.length) : cmpO rows (l.take (k + 1)) = cmpO rows (l.take k) ++ (if oddB rows (l.getD k (0, 0)) = true then [prI (l.getD k (0, 0))] else []) := by
  unfold cmpO
  rw [takeD (0, 0) l k h, List.filter_append, List.map_append]
  congr 1
  by_cases e : oddB rows (l.getD k (0, 0)) = true
  · rw [if_pos e, List.filter_cons_of_pos e]; rfl
  · rw [if_neg e, List.filter_cons_of_neg e]; rfl
theorem cmpO_len (rows : List Rw) (l : List (Nat × Nat)) : (cmpO rows l).length ≤ l.length := by
  unfold cmpO
  rw [List.length_map]
  exact List.length_filter_le _ _
theorem prJ_len {rows : List Rw} {a : Nat} : ∀ (m b : Nat), (prJ rows a m b).length ≤ m
  | 0, b => by simp [prJ]
  | m + 1, b => by
    unfold prJ
    have := prJ_len (rows := rows) (a := a) m (b + 1)
    split
    · rw [List.length_cons]; omega
    · omega
theorem prA_len {rows : List Rw} : ∀ (m a : Nat), (prA rows m a).length ≤ m * rows.length
  | 0, a => by simp [prA]
  | m + 1, a => by
    unfold prA
    rw [List.length_append]
    have h1 := prJ_len (rows := rows) (a := a) (rows.length - (a + 1)) (a + 1)
    have h2 := prA_len (rows := rows) m (a + 1)
    rw [Nat.succ_mul]
    omega
theorem pairs_len {rows : List Rw} (h : rows.length ≤ 12) : (pairsL rows).length ≤ 144 := by
  have h1 := prA_len (rows := rows) rows.length 0
  have h2 : rows.length * rows.length ≤ 12 * 12 := Nat.mul_le_mul h h
  unfold pairsL
  omega

theorem oddB_yes {rows : List Rw} {p : Nat × Nat} (h : ¬ agrP (rows.getD p.1 []) (p.1 : Int) (rows.getD p.2 []) (p.2 : Int)) : oddB rows p = true := by unfold oddB; rw [decide_eq_false h]; rfl
theorem oddB_no {rows : List Rw} {p : Nat × Nat} (h : agrP (rows.getD p.1 []) (p.1 : Int) (rows.getD p.2 []) (p.2 : Int)) : ¬ oddB rows p = true := by unfold oddB; rw [decide_eq_true h]; decide
theorem alkB_yes {rows : List Rw} {p : Nat × Nat} (h : alikeP (rows.getD p.1 []) (rows.getD p.2 [])) : alkB rows p = true := decide_eq_true h
theorem alkB_no {rows : List Rw} {p : Nat × Nat} (h : ¬ alikeP (rows.getD p.1 []) (rows.getD p.2 [])) : alkB rows p = false := decide_eq_false h
theorem rgtB_no {r : Rw} (h1 : 0 < r.length) (h : ¬ rightB r = true) : rgtB r = false := by unfold rgtB; rw [decide_eq_false (by omega), Bool.eq_false_iff.2 h]; rfl
theorem rgtB_yes {r : Rw} (h : rightB r = true) : rgtB r = true := by unfold rgtB; rw [h, Bool.or_true]
theorem rgtB_nil {r : Rw} (h : r.length = 0) : rgtB r = true := by unfold rgtB; rw [decide_eq_true h]; rfl
theorem rgtB_ok {r : Rw} (h1 : 0 < r.length) (h : rgtB r = true) : rightB r = true := by unfold rgtB at h; rwa [decide_eq_false (by omega), Bool.false_or] at h

/-! ### a row from others -/
def fullK (rows : List Rw) (k : Nat) : List Nat := (List.range k).filter fun i => decide (0 < (rows.getD i []).length)
def lastK (rows : List Rw) (k : Nat) : Nat := (rows.take k).foldl (fun m r => if 0 < r.length then r.length else m) 0
def ptsK (rows : List Rw) (k : Nat) : List UInt8 := (fullK rows k).map fun i : Nat => pt (i : Int)
def vlsK (rows : List Rw) (h : Int) (k : Nat) : Rw := (fullK rows k).map fun i => atL (rows.getD i []) (pt h)
theorem full_yes {rows : List Rw} {k : Nat} (h : 0 < (rows.getD k []).length) : fullK rows (k + 1) = fullK rows k ++ [k] := by
  unfold fullK
  rw [List.range_succ, List.filter_append]
  congr 1
  exact List.filter_cons_of_pos (decide_eq_true h)
theorem full_no {rows : List Rw} {k : Nat} (h : ¬ 0 < (rows.getD k []).length) : fullK rows (k + 1) = fullK rows k := by
  unfold fullK
  rw [List.range_succ, List.filter_append, show List.filter (fun i => decide (0 < (rows.getD i []).length)) [k] = [] from List.filter_cons_of_neg (by rw [decide_eq_true_eq]; exact h), List.append_nil]
theorem full_len (rows : List Rw) (k : Nat) : (fullK rows k).length ≤ k := by
  unfold fullK
  exact Nat.le_trans (List.length_filter_le _ _) (by rw [List.length_range]; omega)
theorem pts_len (rows : List Rw) (k : Nat) : (ptsK rows k).length = (fullK rows k).length := List.length_map ..
theorem vls_len (rows : List Rw) (h : Int) (k : Nat) : (vlsK rows h k).length = (fullK rows k).length := List.length_map ..
theorem pts_yes {rows : List Rw} {k : Nat} (h : 0 < (rows.getD k []).length) : ptsK rows (k + 1) = ptsK rows k ++ [pt (k : Int)] := by unfold ptsK; rw [full_yes h, List.map_append]; rfl
theorem pts_no {rows : List Rw} {k : Nat} (h : ¬ 0 < (rows.getD k []).length) : ptsK rows (k + 1) = ptsK rows k := by unfold ptsK; rw [full_no h]
theorem vls_yes {rows : List Rw} {h : Int} {k : Nat} (hk : 0 < (rows.getD k []).length) : vlsK rows h (k + 1) = vlsK rows h k ++ [atL (rows.getD k []) (pt h)] := by unfold vlsK; rw [full_yes hk, List.map_append]; rfl
theorem vls_no {rows : List Rw} {h : Int} {k : Nat} (hk : ¬ 0 < (rows.getD k []).length) : vlsK rows h (k + 1) = vlsK rows h k := by unfold vlsK; rw [full_no hk]
theorem last_yes {rows : List Rw} {k : Nat} (hk : k < rows.length) (h : 0 < (rows.getD k []).length) : lastK rows (k + 1) = (rows.getD k []).length := by
  unfold lastK
  rw [takeD [] rows k hk, List.foldl_append]
  exact if_pos h
theorem last_no {rows : List Rw} {k : Nat} (hk : k < rows.length) (h : ¬ 0 < (rows.getD k []).length) : lastK rows (k + 1) = lastK rows k := by
  unfold lastK
  rw [takeD [] rows k hk, List.foldl_append]
  exact if_neg h
theorem last_le {rows : List Rw} {N : Nat} (h : ∀ r ∈ rows, r.length ≤ N) : ∀ k, lastK rows k ≤ N := fun k => by
  unfold lastK
  have key : ∀ (l : List Rw) (m : Nat), m ≤ N → (∀ r ∈ l, r.length ≤ N) → l.foldl (fun m r => if 0 < r.length then r.length else m) m ≤ N := by
    intro l
    induction l with
    | nil => intro m hm _; exact hm
    | cons r l ih =>
      intro m hm hl
      refine ih _ ?_ fun x hx => hl x (by simp [hx])
      show (if 0 < r.length then r.length else m) ≤ N
      split
      · exact hl r (by simp)
      · exact hm
  exact key _ 0 (Nat.zero_le _) fun r hr => h r (List.mem_of_mem_take hr)
def unitL (m k : Nat) : List UInt8 := (List.replicate m 0).set k 1
def coefP (ps : List UInt8) (m k a : Nat) : UInt8 := (ipL ps (unitL m k)).1.getD a 0
def outN (ps : List UInt8) (vs : Rw) (m k : Nat) (old : Rw) (a : Nat) : List UInt8 := if k = 0 then scaleB (coefP ps m k a) (vs.getD k []) else sumB (old.getD a []) (scaleB (coefP ps m k a) (vs.getD k []))
def outP (ps : List UInt8) (vs : Rw) (m k : Nat) (old : Rw) (a : Nat) : Rw := (List.range m).map fun i => if i < a then outN ps vs m k old i else old.getD i []
def outS (ps : List UInt8) (vs : Rw) (m : Nat) : Nat → Rw
  | 0 => List.replicate m []
  | k + 1 => (List.range m).map (outN ps vs m k (outS ps vs m k))
theorem outP_len (ps : List UInt8) (vs : Rw) (m k : Nat) (old : Rw) (a : Nat) : (outP ps vs m k old a).length = m := by simp [outP]
theorem outS_len (ps : List UInt8) (vs : Rw) (m : Nat) : ∀ k, (outS ps vs m k).length = m
  | 0 => by simp [outS]
  | k + 1 => by simp [outS]
theorem outP_zero {ps : List UInt8} {vs : Rw} {m k : Nat} {old : Rw} (h : old.length = m) : outP ps vs m k old 0 = old := by
  apply List.ext_getElem
  · rw [outP_len, h]
  · intro i h1 h2
    simp [outP, List.getD_eq_getElem?_getD, h2]
theorem outP_all {ps : List UInt8} {vs : Rw} {m k : Nat} : outP ps vs m k (outS ps vs m k) m = outS ps vs m (k + 1) := by
  unfold outP
  rw [outS]
  apply List.map_congr_left
  intro i hi
  rw [if_pos (List.mem_range.1 hi)]
theorem outP_get {ps : List UInt8} {vs : Rw} {m k a : Nat} {old : Rw} (h : a < m) : (outP ps vs m k old a).getD a [] = old.getD a [] := by
  simp [outP, List.getD_eq_getElem?_getD, h]
theorem outP_set {ps : List UInt8} {vs : Rw} {m k a : Nat} {old : Rw} (h : a < m) : (outP ps vs m k old a).set a (outN ps vs m k old a) = outP ps vs m k old (a + 1) := by
  apply List.ext_getElem
  · rw [List.length_set, outP_len, outP_len]
  · intro i h1 h2
    rw [List.getElem_set]
    simp only [outP, List.getElem_map, List.getElem_range]
    by_cases e : a = i
    · subst e; simp
    · rw [if_neg e]
      by_cases g : i < a
      · rw [if_pos g, if_pos (by omega)]
      · rw [if_neg g, if_neg (by omega)]
theorem outN_le {ps : List UInt8} {vs : Rw} {m k a N : Nat} {old : Rw} (h1 : ∀ s ∈ old, s.length ≤ N) (h2 : ∀ s ∈ vs, s.length ≤ N) : (outN ps vs m k old a).length ≤ N := by
  have hg : ∀ (l : Rw) (i : Nat), (∀ s ∈ l, s.length ≤ N) → (l.getD i []).length ≤ N := fun l i hl => by
    by_cases hi : i < l.length
    · exact hl _ (getD_mem [] l i hi)
    · simp [List.getD_eq_getElem?_getD, List.getElem?_eq_none (by omega : l.length ≤ i)]
  unfold outN
  have e1 := hg old a h1
  have e2 := hg vs k h2
  split
  · rw [scale_len]; exact e2
  · rw [sum_len, scale_len]; omega
theorem outS_le {ps : List UInt8} {vs : Rw} {m N : Nat} (h2 : ∀ s ∈ vs, s.length ≤ N) : ∀ k, ∀ s ∈ outS ps vs m k, s.length ≤ N
  | 0 => fun s hs => by rw [List.eq_of_mem_replicate hs]; exact Nat.zero_le _
  | k + 1 => fun s hs => by
    obtain ⟨i, _, rfl⟩ := List.mem_map.1 hs
    exact outN_le (outS_le h2 k) h2
theorem out_first {ps : List UInt8} {vs : Rw} {m k a : Nat} {old : Rw} (hk : k = 0) (h : a < m) : (outP ps vs m k old a).set a (scaleB (coefP ps m k a) (vs.getD k [])) = outP ps vs m k old (a + 1) := by
  rw [← outP_set h, outN, if_pos hk]
theorem out_next {ps : List UInt8} {vs : Rw} {m k a : Nat} {old : Rw} (hk : ¬ k = 0) (h : a < m) : (outP ps vs m k old a).set a (sumB ((outP ps vs m k old a).getD a []) (scaleB (coefP ps m k a) (vs.getD k []))) = outP ps vs m k old (a + 1) := by
  rw [← outP_set h, outN, if_neg hk, outP_get h]
theorem coef_out {ps : List UInt8} {m k a : Nat} (h : ¬ a < (ipL ps (unitL m k)).1.length) : coefP ps m k a = 0 := by
  unfold coefP
  simp [List.getD_eq_getElem?_getD, List.getElem?_eq_none (by omega : (ipL ps (unitL m k)).1.length ≤ a)]
theorem last_11 {rows : List Rw} (h : ∀ r ∈ rows, 0 < r.length → rightB r = true) (k : Nat) : lastK rows k ≤ 11 := last_le (fun r hr => by
  by_cases g : 0 < r.length
  · have := (right_ok (h r hr g)).2.1; omega
  · omega) k
theorem full_mem {rows : List Rw} {k i : Nat} : i ∈ fullK rows k ↔ i < k ∧ 0 < (rows.getD i []).length := by
  unfold fullK
  rw [List.mem_filter, List.mem_range, decide_eq_true_eq]
theorem vls_le {rows : List Rw} {h : Int} (hr : ∀ r ∈ rows, 0 < r.length → rightB r = true) {k : Nat} (hk : k ≤ rows.length) : ∀ s ∈ vlsK rows h k, s.length ≤ 4096 := fun s hs => by
  obtain ⟨i, hi, rfl⟩ := List.mem_map.1 hs
  obtain ⟨h1, h2⟩ := full_mem.1 hi
  exact atL_len _ _ (right_len (hr _ (getD_mem [] rows i (by omega)) h2))
def rflE (rows : List Rw) (h : Int) : Int :=
  if cmpE rows = 0 then (if knw h then (if lastK rows rows.length = 0 ∨ (fullK rows rows.length).length < lastK rows rows.length then 17 else if cmpL rows = [] then 0 else 4) else 8) else cmpE rows
def rflO (rows : List Rw) (h : Int) (k : Nat) : Rw := outS ((ptsK rows k).take (lastK rows k)) (vlsK rows h k) (lastK rows k) (lastK rows k)
def rflL (rows : List Rw) (h : Int) : Rw := if rflE rows h = 0 then rflO rows h rows.length else []
theorem cmp0 {rows : List Rw} (h : cmpE rows = 0) : rows.length ≤ 12 ∧ (∀ r ∈ rows, 0 < r.length → rightB r = true) ∧ ∀ p ∈ pairsL rows, alikeP (rows.getD p.1 []) (rows.getD p.2 []) := by
  unfold cmpE at h
  split at h
  · cases h
  · split at h
    · cases h
    · split at h
      · cases h
      · rename_i h1 h2 h3
        exact ⟨by omega, fun r hr h0 => rgtB_ok h0 (all_false h2 r hr), fun p hp => of_decide_eq_true (all_false h3 p hp)⟩
end Go.Proofs.YtcodgflbafanlaaDoor.S27

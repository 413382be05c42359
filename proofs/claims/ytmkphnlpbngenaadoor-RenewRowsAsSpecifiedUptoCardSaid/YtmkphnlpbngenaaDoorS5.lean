/- Texts of this claim: S27.H0, S27.H1, S27.H2, S27.Pj, S27.Pv, S27.H3, S27.Pw, S27.Cd0. -/
import Derived.Test.YtmkphnlpbngenaaDoorS4
import Derived.Test.YtmkphnlpbngenaaDoorS1
import Derived.Test.YtmkphnlpbngenaaDoorS3
import Derived.Test.YtmkphnlpbngenaaDoorVc8
import Derived.Test.YtmkphnlpbngenaaDoorCards
import Derived.Test.YtmkphnlpbngenaaDoorTie
import Derived.WalkKit
import Derived.ProofKit
import Derived.OpenShut
import Derived.Deep.DeepHandedRow
import Derived.Lib.LaidTab
set_option linter.unusedVariables false
set_option linter.unusedSimpArgs false
namespace Go.Proofs.YtmkphnlpbngenaaDoor.S27
open Go Go.Proofs.YtmkphnlpbngenaaDoor.Vc Go.Proofs
set_option maxRecDepth 100000
set_option linter.unusedVariables false

def sR4a : List V → Option (Prop × V × List Blk)
  | [.str s, .int .i64 k] => some (0 ≤ k, .u8 (co s k.toNat), [])
  | _ => none
set_option maxHeartbeats 1000000 in
theorem bR4a (s : List UInt8) (k : Int) (hp0 : 0 ≤ k) : bodyP (En CRLine tys G6 QPrs) Tryd.f71 [.k] [.str s, .int .i64 k] (.u8 (co s k.toNat)) [] := by
  refine ⟨fun h0 => ?_, fun h0 => ?_⟩
  · replace h0 : k < (s.length : Int) := h0
    refine ⟨⟨by show (0 : Int) ≤ k; omega, by show k < (s.length : Int); omega⟩, ?_⟩
    exact ⟨rfl, rfl, rfl, rfl⟩
  · replace h0 : ¬ (k < (s.length : Int)) := h0
    rw [co_ge s k.toNat (by omega)]
    exact ⟨rfl, rfl, rfl, rfl⟩
def CR4a : List (Nat × Con) := (71, pureC [.v .str, .v (.int .i64)] sR4a) :: CRLine
theorem kR4a : Known Tryd.prog (En CR4a tys G6 QPrs) := kRLine.add Tryd.func71 Tryd.call71 [.k] fun ds p v bs h hp => by
  unfold sR4a at h
  split at h <;> simp only [Option.some.injEq, Prod.mk.injEq, reduceCtorEq] at h
  obtain ⟨rfl, rfl, rfl⟩ := h
  exact bR4a _ _ hp
def sR4s : List V → Option (Prop × V × List Blk)
  | [.str a, .str b] => some (a.length ≤ 1000000000 ∧ b.length ≤ 1000000000, .str (sumB a b), [])
  | _ => none
set_option maxHeartbeats 1000000 in
theorem bR4s (a : List UInt8) (b : List UInt8) (hp0 : a.length ≤ 1000000000) (hp1 : b.length ≤ 1000000000) : bodyP (En CR4a tys G6 QPrs) Tryd.f55 [.k] [.str a, .str b] (.str (sumB a b)) [] := by
  refine ⟨0, [(0, .k), (1, .k), (5, .o .u8), (6, .k)], fun n vs H => ∃ (k : Nat), k ≤ max a.length b.length ∧ n = max a.length b.length - k ∧ vs = [.str a, .str b, .own .u8 0, .int .i64 (k : Int)] ∧ H = [.row true .u8 (sumK a b k)], ⟨rfl, max a.length b.length, 0, by omega, by omega, rfl, rfl⟩, ?_⟩
  rintro n vs H ⟨k, hc1_0, rfl, rfl, rfl⟩
  have hsl := sumK_len a b k
  refine ⟨fun h0 => ?_, fun h0 => ?_⟩
  · replace h0 : (k : Int) < (max (a.length : Int) (b.length : Int)) := h0
    refine ⟨rfl, by show 0 ≤ (k : Int); first | omega | assumption, rfl, by show 0 ≤ (k : Int); first | omega | assumption, ⟨rfl, rfl⟩, by show (sumK a b k).length + ([((co a (k : Int).toNat) ^^^ (co b (k : Int).toNat))] : List UInt8).length ≤ 1000000000; simp only [List.length_cons, List.length_nil]; omega, ⟨by show (-9223372036854775808 : Int) ≤ ((k : Int) + 1); omega, by show ((k : Int) + 1) ≤ (9223372036854775807 : Int); omega⟩, ?_⟩
    exact ⟨rfl, max a.length b.length - (k + 1), by omega, k + 1, by omega, rfl, rfl, by rw [sumK_snoc]; rfl⟩
  · replace h0 : ¬ ((k : Int) < (max (a.length : Int) (b.length : Int))) := h0
    rw [show sumB a b = sumK a b k by rw [← sumK_all]; congr 1; omega]
    exact ⟨rfl, rfl, rfl, rfl⟩
def CR4s : List (Nat × Con) := (55, pureC [.v .str, .v .str] sR4s) :: CR4a
theorem kR4s : Known Tryd.prog (En CR4s tys G6 QPrs) := kR4a.add Tryd.func55 Tryd.call55 [.k] fun ds p v bs h hp => by
  unfold sR4s at h
  split at h <;> simp only [Option.some.injEq, Prod.mk.injEq, reduceCtorEq] at h
  obtain ⟨rfl, rfl, rfl⟩ := h
  exact bR4s _ _ hp.1 hp.2
def sR4c : List V → Option (Prop × V × List Blk)
  | [.u8 c, .str s] => some (s.length ≤ 1000000000, .str (scaleB c s), [])
  | _ => none
set_option maxHeartbeats 1000000 in
theorem bR4c (c : UInt8) (s : List UInt8) (hp0 : s.length ≤ 1000000000) : bodyP (En CR4s tys G6 QPrs) Tryd.f56 [.k] [.u8 c, .str s] (.str (scaleB c s)) [] := by
  refine ⟨0, [(0, .k), (1, .k), (5, .o .u8), (6, .k)], fun n vs H => ∃ (k : Nat), k ≤ s.length ∧ n = s.length - k ∧ vs = [.u8 c, .str s, .own .u8 0, .int .i64 (k : Int)] ∧ H = [.row true .u8 (sclK c s k)], ⟨rfl, s.length, 0, by omega, by omega, rfl, rfl⟩, ?_⟩
  rintro n vs H ⟨k, hc1_0, rfl, rfl, rfl⟩
  have hsl := sclK_len c s k
  refine ⟨fun h0 => ?_, fun h0 => ?_⟩
  · replace h0 : (k : Int) < (s.length : Int) := h0
    refine ⟨⟨by show (0 : Int) ≤ (k : Int); omega, by show (k : Int) < (s.length : Int); omega⟩, trivial, ⟨rfl, rfl⟩, by show (sclK c s k).length + ([mulL c (s.getD k 0)] : List UInt8).length ≤ 1000000000; simp only [List.length_cons, List.length_nil]; omega, ⟨by show (-9223372036854775808 : Int) ≤ ((k : Int) + 1); omega, by show ((k : Int) + 1) ≤ (9223372036854775807 : Int); omega⟩, ?_⟩
    exact ⟨rfl, s.length - (k + 1), by omega, k + 1, by omega, rfl, rfl, by rw [sclK_snoc]; rfl⟩
  · replace h0 : ¬ ((k : Int) < (s.length : Int)) := h0
    rw [show scaleB c s = sclK c s k by rw [show k = s.length by omega]; rfl]
    exact ⟨rfl, rfl, rfl, rfl⟩
def CR4c : List (Nat × Con) := (56, pureC [.v .u8, .v .str] sR4c) :: CR4s
theorem kR4c : Known Tryd.prog (En CR4c tys G6 QPrs) := kR4s.add Tryd.func56 Tryd.call56 [.k] fun ds p v bs h hp => by
  unfold sR4c at h
  split at h <;> simp only [Option.some.injEq, Prod.mk.injEq, reduceCtorEq] at h
  obtain ⟨rfl, rfl, rfl⟩ := h
  exact bR4c _ _ hp
def sRIn : List V → Option (Prop × V × List Blk)
  | [.int .i64 h] => some (True, .b (knw h), [])
  | _ => none
set_option maxHeartbeats 1000000 in
theorem bRIn (h : Int)  : bodyP (En CR4c tys G6 QPrs) Tryd.f44 [.k] [.int .i64 h] (.b (knw h)) [] := by
  refine ⟨fun h0 => ?_, fun h0 => ?_⟩
  · replace h0 : 0 ≤ h := h0
    exact ⟨rfl, rfl, congrArg V.b (propext (by unfold knw; constructor <;> intro g <;> first | omega | exact Bool.noConfusion g | (exfalso; omega))), rfl⟩
  · replace h0 : ¬ (0 ≤ h) := h0
    exact ⟨rfl, rfl, congrArg V.b (propext (by unfold knw; constructor <;> intro g <;> first | omega | exact Bool.noConfusion g | (exfalso; omega))), rfl⟩
def CRIn : List (Nat × Con) := (44, pureC [.v (.int .i64)] sRIn) :: CR4c
theorem kRIn : Known Tryd.prog (En CRIn tys G6 QPrs) := kR4c.add Tryd.func44 Tryd.call44 [.k] fun ds p v bs h hp => by
  unfold sRIn at h
  split at h <;> simp only [Option.some.injEq, Prod.mk.injEq, reduceCtorEq] at h
  obtain ⟨rfl, rfl, rfl⟩ := h
  exact bRIn _
def sRAt : List V → Option (Prop × V × List Blk)
  | [.sl false .str l, .u8 x] => some (1 ≤ l.length ∧ l.length ≤ 1000000 ∧ (∀ x ∈ l, x.length = n0 l) ∧ n0 l ≤ 1048576, .str (atL l x), [])
  | _ => none
set_option maxHeartbeats 1000000 in
theorem bRAt (l : List (List UInt8)) (x : UInt8) (hp0 : 1 ≤ l.length) (hp1 : l.length ≤ 1000000) (hp2 : (∀ x ∈ l, x.length = n0 l)) (hp3 : n0 l ≤ 1048576) : bodyP (En CRIn tys G6 QPrs) Tryd.f45 [.k] [.sl false .str l, .u8 x] (.str (atL l x)) [] := by
  refine ⟨0, [(0, .k), (1, .k), (5, .o .u8), (6, .k)], fun n vs H => ∃ (k : Nat), k ≤ n0 l ∧ n = n0 l - k ∧ vs = [.sl false .str l, .u8 x, .own .u8 0, .int .i64 (k : Int)] ∧ H = [.row true .u8 (atK l x k)], ⟨rfl, n0 l, 0, by omega, by omega, rfl, rfl⟩, ?_⟩
  rintro n vs H ⟨k, hc1_0, rfl, rfl, rfl⟩
  have hsl := atK_len l x k
  have hn0 : (l.getD 0 []).length = n0 l := rfl
  refine ⟨⟨by show (0 : Int) ≤ 0; omega, by show 0 < (l.length : Int); omega⟩, fun h0 => ?_, fun h0 => ?_⟩
  · replace h0 : (k : Int) < (((l.getD 0 []).length : Nat) : Int) := h0
    refine ⟨0, [(0, .k), (1, .k), (5, .o .u8), (6, .k), (7, .o .u8), (8, .k)], fun n vs H => ∃ (i : Nat), i ≤ l.length ∧ n = l.length - i ∧ vs = [.sl false .str l, .u8 x, .own .u8 0, .int .i64 (k : Int), .own .u8 1, .int .i64 (i : Int)] ∧ H = [.row true .u8 (atK l x k), .row true .u8 (colL (l.take i) k)], ⟨rfl, l.length, 0, by omega, by omega, rfl, rfl⟩, ?_⟩
    rintro n vs H ⟨i, hc2_0, rfl, rfl, rfl⟩
    have hcl : (colL (l.take i) k).length = i := mapT_len _ l i (by omega)
    refine ⟨fun h1 => ?_, fun h1 => ?_⟩
    · replace h1 : (i : Int) < (l.length : Int) := h1
      have hi : i < l.length := by omega
      have hli := hp2 _ (getD_mem [] l i hi)
      refine ⟨⟨by show (0 : Int) ≤ (i : Int); omega, by show (i : Int) < (l.length : Int); omega⟩, ⟨by show (0 : Int) ≤ (k : Int); omega, by show (k : Int) < ((l.getD i []).length : Int); omega⟩, ⟨rfl, rfl⟩, by show (colL (l.take i) k).length + ([(l.getD i []).getD k 0] : List UInt8).length ≤ 1000000000; simp only [List.length_cons, List.length_nil]; omega, ⟨by show (-9223372036854775808 : Int) ≤ ((i : Int) + 1); omega, by show ((i : Int) + 1) ≤ (9223372036854775807 : Int); omega⟩, ?_⟩
      exact ⟨rfl, l.length - (i + 1), by omega, i + 1, by omega, rfl, rfl, by rw [col_snoc l k i hi]; rfl⟩
    · replace h1 : ¬ ((i : Int) < (l.length : Int)) := h1
      have hir : l.take i = l := List.take_of_length_le (by omega)
      refine ⟨by show (colL (l.take i) k).length ≤ 1000000; first | omega | assumption | (simp only [List.length_cons, List.length_nil, List.length_append, List.length_take, List.length_drop, List.length_set, List.length_replicate]; omega), ⟨rfl, rfl⟩, by show (atK l x k).length + ([horner x (colL (l.take i) k)] : List UInt8).length ≤ 1000000000; simp only [List.length_cons, List.length_nil]; omega, ⟨by show (-9223372036854775808 : Int) ≤ ((k : Int) + 1); omega, by show ((k : Int) + 1) ≤ (9223372036854775807 : Int); omega⟩, ?_⟩
      exact ⟨rfl, n0 l - (k + 1), by omega, k + 1, by omega, rfl, rfl, by rw [atK_snoc (show horner x (colL (l.take i) k) = _ by rw [hir])]; rfl⟩
  · replace h0 : ¬ ((k : Int) < (((l.getD 0 []).length : Nat) : Int)) := h0
    rw [← atK_all hp0 hp2, show n0 l = k by omega]
    exact ⟨rfl, rfl, rfl, rfl⟩
def CRAt : List (Nat × Con) := (45, pureC [.v (.sl .str), .v .u8] sRAt) :: CRIn
theorem kRAt : Known Tryd.prog (En CRAt tys G6 QPrs) := kRIn.add Tryd.func45 Tryd.call45 [.k] fun ds p v bs h hp => by
  unfold sRAt at h
  split at h <;> simp only [Option.some.injEq, Prod.mk.injEq, reduceCtorEq] at h
  obtain ⟨rfl, rfl, rfl⟩ := h
  exact bRAt _ _ hp.1 hp.2.1 hp.2.2.1 hp.2.2.2
def sRRgt : List V → Option (Prop × V × List Blk)
  | [.sl false .str r] => some (r.length ≤ 1048576, .b (rightB r = true), [])
  | _ => none
set_option maxHeartbeats 1000000 in
theorem bRRgt (r : List (List UInt8)) (hp0 : r.length ≤ 1048576) : bodyP (En CRAt tys G6 QPrs) Tryd.f47 [.k] [.sl false .str r] (.b (rightB r = true)) [] := by
  refine ⟨fun h0 => ?_, fun h0 => ?_⟩
  · replace h0 : ¬ ((r.length : Int) < 1) := h0
    refine ⟨fun h1 => ?_, fun h1 => ?_⟩
    · replace h1 : 11 < (r.length : Int) := h1
      rw [right_no1 (r := r) (.inr (by omega))]
      exact ⟨rfl, rfl, rfl, rfl⟩
    · replace h1 : ¬ (11 < (r.length : Int)) := h1
      have hall := right_all (r := r) (by omega) (by omega)
      refine ⟨0, [(0, .k), (3, .k)], fun n vs H => ∃ (k : Nat), k ≤ r.length ∧ (r.drop k).all (fun s => decide (s.length = n0 r) && decide (s.length ≤ 4096)) = r.all (fun s => decide (s.length = n0 r) && decide (s.length ≤ 4096)) ∧ n = r.length - k ∧ vs = [.sl false .str r, .int .i64 (k : Int)] ∧ H = [], ⟨rfl, r.length, 0, by omega, rfl, by omega, rfl, rfl⟩, ?_⟩
      rintro n vs H ⟨k, hc1_0, hc1_1, rfl, rfl, rfl⟩
      refine ⟨fun h2 => ?_, fun h2 => ?_⟩
      · replace h2 : (k : Int) < (r.length : Int) := h2
        have hk : k < r.length := by omega
        refine ⟨by kernel_rfl, ⟨by show (0 : Int) ≤ (k : Int); omega, by show (k : Int) < (r.length : Int); omega⟩, ⟨by show (0 : Int) ≤ 0; omega, by show 0 < (r.length : Int); omega⟩, fun h3 => ?_, fun h3 => ?_⟩
        · replace h3 : ¬ ((((r.getD k []).length : Nat) : Int) ≠ (((r.getD 0 []).length : Nat) : Int)) := h3
          refine ⟨fun h4 => ?_, fun h4 => absurd h4 (show ¬ ((((r.getD k []).length : Nat) : Int) ≠ (((r.getD 0 []).length : Nat) : Int)) by first | omega | assumption | simp_all)⟩
          refine ⟨fun h5 => ?_, fun h5 => absurd h5 (show ¬ ((((r.getD k []).length : Nat) : Int) ≠ (((r.getD 0 []).length : Nat) : Int)) by first | omega | assumption | simp_all)⟩
          refine ⟨⟨by show (0 : Int) ≤ (k : Int); omega, by show (k : Int) < (r.length : Int); omega⟩, fun h6 => ?_, fun h6 => absurd h6 (show ¬ ((((r.getD k []).length : Nat) : Int) ≠ (((r.getD 0 []).length : Nat) : Int)) by first | omega | assumption | simp_all)⟩
          refine ⟨fun h7 => ?_, fun h7 => absurd h7 (show ¬ ((((r.getD k []).length : Nat) : Int) ≠ (((r.getD 0 []).length : Nat) : Int)) by first | omega | assumption | simp_all)⟩
          refine ⟨fun h8 => ?_, fun h8 => absurd h8 (show ¬ ((((r.getD k []).length : Nat) : Int) ≠ (((r.getD 0 []).length : Nat) : Int)) by first | omega | assumption | simp_all)⟩
          refine ⟨fun h9 => absurd h9 (show ¬ ((((r.getD k []).length : Nat) : Int) ≠ (((r.getD 0 []).length : Nat) : Int)) by first | omega | assumption | simp_all), fun h9 => ?_⟩
          refine ⟨fun h10 => ?_, fun h10 => ?_⟩
          · replace h10 : 4096 < (((r.getD k []).length : Nat) : Int) := h10
            have e : rightB r = false := by rw [hall]; exact all_bad (d := []) hk hc1_1 (by show (decide ((r.getD k []).length = n0 r) && decide ((r.getD k []).length ≤ 4096)) = false; rw [decide_eq_false (by omega : ¬ (r.getD k []).length ≤ 4096), Bool.and_false])
            rw [e]
            exact ⟨rfl, rfl, rfl, rfl⟩
          · replace h10 : ¬ (4096 < (((r.getD k []).length : Nat) : Int)) := h10
            refine ⟨⟨by show (-9223372036854775808 : Int) ≤ ((k : Int) + 1); omega, by show ((k : Int) + 1) ≤ (9223372036854775807 : Int); omega⟩, ?_⟩
            have hok : (decide ((r.getD k []).length = n0 r) && decide ((r.getD k []).length ≤ 4096)) = true := by rw [decide_eq_true (by unfold n0; omega : (r.getD k []).length = n0 r), decide_eq_true (by omega : (r.getD k []).length ≤ 4096)]; rfl
            exact ⟨rfl, r.length - (k + 1), by omega, k + 1, by omega, all_next (d := []) hk hc1_1 hok, rfl, rfl, rfl⟩
        · replace h3 : (((r.getD k []).length : Nat) : Int) ≠ (((r.getD 0 []).length : Nat) : Int) := h3
          refine ⟨fun h11 => absurd (show (((r.getD k []).length : Nat) : Int) ≠ (((r.getD 0 []).length : Nat) : Int) by first | omega | assumption | simp_all) h11, fun h11 => ?_⟩
          refine ⟨fun h12 => absurd (show (((r.getD k []).length : Nat) : Int) ≠ (((r.getD 0 []).length : Nat) : Int) by first | omega | assumption | simp_all) h12, fun h12 => ?_⟩
          refine ⟨fun h13 => absurd (show (((r.getD k []).length : Nat) : Int) ≠ (((r.getD 0 []).length : Nat) : Int) by first | omega | assumption | simp_all) h13, fun h13 => ?_⟩
          refine ⟨fun h14 => absurd (show (((r.getD k []).length : Nat) : Int) ≠ (((r.getD 0 []).length : Nat) : Int) by first | omega | assumption | simp_all) h14, fun h14 => ?_⟩
          refine ⟨fun h15 => absurd (show (((r.getD k []).length : Nat) : Int) ≠ (((r.getD 0 []).length : Nat) : Int) by first | omega | assumption | simp_all) h15, fun h15 => ?_⟩
          refine ⟨fun h16 => ?_, fun h16 => absurd (show (((r.getD k []).length : Nat) : Int) ≠ (((r.getD 0 []).length : Nat) : Int) by first | omega | assumption | simp_all) h16⟩
          have e : rightB r = false := by rw [hall]; exact all_bad (d := []) hk hc1_1 (by show (decide ((r.getD k []).length = n0 r) && decide ((r.getD k []).length ≤ 4096)) = false; rw [decide_eq_false (by unfold n0; omega : ¬ (r.getD k []).length = n0 r), Bool.false_and])
          rw [e]
          exact ⟨rfl, rfl, rfl, rfl⟩
      · replace h2 : ¬ ((k : Int) < (r.length : Int)) := h2
        have e : rightB r = true := by rw [hall]; exact all_stop (by omega) hc1_1
        rw [e]
        exact ⟨rfl, rfl, rfl, rfl⟩
  · replace h0 : (r.length : Int) < 1 := h0
    rw [right_no1 (r := r) (.inl (by omega))]
    exact ⟨rfl, rfl, rfl, rfl⟩
def CRRgt : List (Nat × Con) := (47, pureC [.v (.sl .str)] sRRgt) :: CRAt
theorem kRRgt : Known Tryd.prog (En CRRgt tys G6 QPrs) := kRAt.add Tryd.func47 Tryd.call47 [.k] fun ds p v bs h hp => by
  unfold sRRgt at h
  split at h <;> simp only [Option.some.injEq, Prod.mk.injEq, reduceCtorEq] at h
  obtain ⟨rfl, rfl, rfl⟩ := h
  exact bRRgt _ hp
def sRVal : List V → Option (Prop × V × List Blk)
  | [.sl false .str r, .int .i64 h] => some (r.length ≤ 1048576, .agg [.str (valS r h), .int .i64 (valE r h)], [])
  | _ => none
set_option maxHeartbeats 1000000 in
theorem bRVal (r : List (List UInt8)) (h : Int) (hp0 : r.length ≤ 1048576) : bodyP (En CRRgt tys G6 QPrs) Tryd.f21 [.k, .k] [.sl false .str r, .int .i64 h] (.agg [.str (valS r h), .int .i64 (valE r h)]) [] := by
  refine ⟨by show r.length ≤ 1048576; first | omega | assumption, fun h0 => ?_, fun h0 => ?_⟩
  · replace h0 : ¬ (rightB r = true) := h0
    refine ⟨⟨rfl, rfl, rfl, Nat.le_of_ble_eq_true rfl⟩, ?_⟩
    have e : valE r h = 1 := if_neg h0
    rw [valS, if_neg (by rw [e]; decide), e]
    exact ⟨rfl, rfl, rfl, rfl⟩
  · replace h0 : ¬ (¬ (rightB r = true)) := h0
    have hr := Classical.not_not.1 h0
    obtain ⟨r1, r2, r3, r4⟩ := right_ok hr
    refine ⟨rfl, trivial, fun h1 => ?_, fun h1 => ?_⟩
    · replace h1 : ¬ (knw h) := h1
      refine ⟨⟨rfl, rfl, rfl, Nat.le_of_ble_eq_true rfl⟩, ?_⟩
      have e : valE r h = 8 := by unfold valE; rw [if_pos hr, if_neg h1]
      rw [valS, if_neg (by rw [e]; decide), e]
      exact ⟨rfl, rfl, rfl, rfl⟩
    · replace h1 : ¬ (¬ (knw h)) := h1
      have hk := Classical.not_not.1 h1
      obtain ⟨k1, k2⟩ := id hk
      refine ⟨⟨by show (-9223372036854775808 : Int) ≤ (h + 1); omega, by show (h + 1) ≤ (9223372036854775807 : Int); omega⟩, ⟨by show 1 ≤ r.length; first | omega | assumption, by show r.length ≤ 1000000; first | omega | assumption, r3, Nat.le_trans r4 (by omega)⟩, ⟨rfl, rfl, rfl, Nat.le_of_ble_eq_true rfl⟩, ?_⟩
      have e : valE r h = 0 := by unfold valE; rw [if_pos hr, if_pos hk]
      rw [valS, if_pos e, e]
      exact ⟨rfl, rfl, rfl, rfl⟩
def CRVal : List (Nat × Con) := (21, pureC [.v (.sl .str), .v (.int .i64)] sRVal) :: CRRgt
theorem kRVal : Known Tryd.prog (En CRVal tys G6 QPrs) := kRRgt.add Tryd.func21 Tryd.call21 [.k, .k] fun ds p v bs h hp => by
  unfold sRVal at h
  split at h <;> simp only [Option.some.injEq, Prod.mk.injEq, reduceCtorEq] at h
  obtain ⟨rfl, rfl, rfl⟩ := h
  exact bRVal _ _ hp
end Go.Proofs.YtmkphnlpbngenaaDoor.S27

namespace Go.Proofs.YtmkphnlpbngenaaDoor.S27
open Go Go.Proofs.YtmkphnlpbngenaaDoor.Vc Go.Proofs
set_option maxRecDepth 100000
set_option linter.unusedVariables false

def sRAgr : List V → Option (Prop × V × List Blk)
  | [.sl false .str a, .int .i64 h, .sl false .str b, .int .i64 o] => some (a.length ≤ 1048576 ∧ b.length ≤ 1048576, .agg [.b (agQ a h b o), .int .i64 (agE a h b o)], [])
  | _ => none
set_option maxHeartbeats 1000000 in
theorem bRAgr (a : List (List UInt8)) (h : Int) (b : List (List UInt8)) (o : Int) (hp0 : a.length ≤ 1048576) (hp1 : b.length ≤ 1048576) : bodyP (En CRVal tys G6 QPrs) Tryd.f23 [.k, .k] [.sl false .str a, .int .i64 h, .sl false .str b, .int .i64 o] (.agg [.b (agQ a h b o), .int .i64 (agE a h b o)]) [] := by
  refine ⟨by show a.length ≤ 1048576; first | omega | assumption, by show b.length ≤ 1048576; first | omega | assumption, by kernel_rfl, fun h0 => ?_, fun h0 => ?_⟩
  · replace h0 : ¬ (¬ (rightB a = true)) := h0
    have ha := Classical.not_not.1 h0
    obtain ⟨a1, a2, a3, a4⟩ := right_ok ha
    refine ⟨fun h1 => ?_, fun h1 => absurd h1 (show ¬ (¬ (rightB a = true)) by first | omega | assumption | simp_all)⟩
    refine ⟨fun h2 => absurd h2 (show ¬ (¬ (rightB a = true)) by first | omega | assumption | simp_all), fun h2 => ?_⟩
    refine ⟨fun h3 => ?_, fun h3 => ?_⟩
    · replace h3 : ¬ (¬ (rightB b = true)) := h3
      have hb := Classical.not_not.1 h3
      obtain ⟨b1, b2, b3, b4⟩ := right_ok hb
      refine ⟨fun h4 => ?_, fun h4 => absurd h4 (show ¬ (¬ (rightB b = true)) by first | omega | assumption | simp_all)⟩
      refine ⟨fun h5 => ?_, fun h5 => absurd h5 (show ¬ (¬ (rightB b = true)) by first | omega | assumption | simp_all)⟩
      refine ⟨fun h6 => ?_, fun h6 => absurd h6 (show ¬ (¬ (rightB b = true)) by first | omega | assumption | simp_all)⟩
      refine ⟨fun h7 => ?_, fun h7 => absurd h7 (show ¬ (¬ (rightB b = true)) by first | omega | assumption | simp_all)⟩
      refine ⟨fun h8 => absurd h8 (show ¬ (¬ (rightB b = true)) by first | omega | assumption | simp_all), fun h8 => ?_⟩
      refine ⟨fun h9 => ?_, fun h9 => ?_⟩
      · replace h9 : ¬ ((a.length : Int) ≠ (b.length : Int)) := h9
        refine ⟨fun h10 => ?_, fun h10 => absurd h10 (show ¬ ((a.length : Int) ≠ (b.length : Int)) by first | omega | assumption | simp_all)⟩
        refine ⟨⟨by show (0 : Int) ≤ 0; omega, by show 0 < (a.length : Int); omega⟩, fun h11 => ?_, fun h11 => absurd h11 (show ¬ ((a.length : Int) ≠ (b.length : Int)) by first | omega | assumption | simp_all)⟩
        refine ⟨fun h12 => ?_, fun h12 => absurd h12 (show ¬ ((a.length : Int) ≠ (b.length : Int)) by first | omega | assumption | simp_all)⟩
        refine ⟨fun h13 => ?_, fun h13 => absurd h13 (show ¬ ((a.length : Int) ≠ (b.length : Int)) by first | omega | assumption | simp_all)⟩
        refine ⟨fun h14 => ?_, fun h14 => absurd h14 (show ¬ ((a.length : Int) ≠ (b.length : Int)) by first | omega | assumption | simp_all)⟩
        refine ⟨⟨by show (0 : Int) ≤ 0; omega, by show 0 < (b.length : Int); omega⟩, fun h15 => ?_, fun h15 => absurd h15 (show ¬ ((a.length : Int) ≠ (b.length : Int)) by first | omega | assumption | simp_all)⟩
        refine ⟨fun h16 => ?_, fun h16 => absurd h16 (show ¬ ((a.length : Int) ≠ (b.length : Int)) by first | omega | assumption | simp_all)⟩
        refine ⟨fun h17 => ?_, fun h17 => absurd h17 (show ¬ ((a.length : Int) ≠ (b.length : Int)) by first | omega | assumption | simp_all)⟩
        refine ⟨fun h18 => absurd h18 (show ¬ ((a.length : Int) ≠ (b.length : Int)) by first | omega | assumption | simp_all), fun h18 => ?_⟩
        refine ⟨fun h19 => ?_, fun h19 => ?_⟩
        · replace h19 : (((a.getD 0 []).length : Nat) : Int) ≠ (((b.getD 0 []).length : Nat) : Int) := h19
          refine ⟨⟨rfl, rfl, rfl, Nat.le_of_ble_eq_true rfl⟩, ?_⟩
          have e : agE a h b o = 1 := by unfold agE; rw [if_neg fun g => h19 (by have := g.2.2.2; unfold n0 at this; omega)]
          have e3 : agQ a h b o = False := propext ⟨fun g => absurd g.1 (by rw [e]; decide), fun g => g.elim⟩
          rw [e, e3]
          exact ⟨rfl, rfl, rfl, rfl⟩
        · replace h19 : ¬ ((((a.getD 0 []).length : Nat) : Int) ≠ (((b.getD 0 []).length : Nat) : Int)) := h19
          have hl : alikeP a b := ⟨by omega, by unfold n0; omega⟩
          refine ⟨rfl, trivial, rfl, trivial, fun h20 => ?_, fun h20 => ?_⟩
          · replace h20 : ¬ (¬ (knw h)) := h20
            have k1 := Classical.not_not.1 h20
            obtain ⟨p1, p2⟩ := id k1
            refine ⟨fun h21 => ?_, fun h21 => ?_⟩
            · replace h21 : ¬ (knw o) := h21
              refine ⟨⟨rfl, rfl, rfl, Nat.le_of_ble_eq_true rfl⟩, ?_⟩
              have e : agE a h b o = 8 := by unfold agE; rw [if_pos ⟨ha, hb, hl⟩, if_neg fun g => h21 g.2]
              have e3 : agQ a h b o = False := propext ⟨fun g => absurd g.1 (by rw [e]; decide), fun g => g.elim⟩
              rw [e, e3]
              exact ⟨rfl, rfl, rfl, rfl⟩
            · replace h21 : ¬ (¬ (knw o)) := h21
              have k2 := Classical.not_not.1 h21
              obtain ⟨p3, p4⟩ := id k2
              refine ⟨⟨by show (-9223372036854775808 : Int) ≤ (o + 1); omega, by show (o + 1) ≤ (9223372036854775807 : Int); omega⟩, ⟨by show 1 ≤ a.length; first | omega | assumption, by show a.length ≤ 1000000; first | omega | assumption, a3, Nat.le_trans a4 (by omega)⟩, ⟨by show (-9223372036854775808 : Int) ≤ (h + 1); omega, by show (h + 1) ≤ (9223372036854775807 : Int); omega⟩, ⟨by show 1 ≤ b.length; first | omega | assumption, by show b.length ≤ 1000000; first | omega | assumption, b3, Nat.le_trans b4 (by omega)⟩, ⟨rfl, rfl, rfl, Nat.le_of_ble_eq_true rfl⟩, ?_⟩
              have e : agE a h b o = 0 := by unfold agE; rw [if_pos ⟨ha, hb, hl⟩, if_pos ⟨k1, k2⟩]
              have e3 : agQ a h b o = agrP a h b o := propext ⟨fun g => g.2, fun g => ⟨e, g⟩⟩
              rw [e, e3]
              exact ⟨rfl, rfl, rfl, rfl⟩
          · replace h20 : ¬ (knw h) := h20
            refine ⟨⟨rfl, rfl, rfl, Nat.le_of_ble_eq_true rfl⟩, ?_⟩
            have e : agE a h b o = 8 := by unfold agE; rw [if_pos ⟨ha, hb, hl⟩, if_neg fun g => h20 g.1]
            have e3 : agQ a h b o = False := propext ⟨fun g => absurd g.1 (by rw [e]; decide), fun g => g.elim⟩
            rw [e, e3]
            exact ⟨rfl, rfl, rfl, rfl⟩
      · replace h9 : (a.length : Int) ≠ (b.length : Int) := h9
        refine ⟨fun h22 => absurd (show (a.length : Int) ≠ (b.length : Int) by first | omega | assumption | simp_all) h22, fun h22 => ?_⟩
        refine ⟨fun h23 => absurd (show (a.length : Int) ≠ (b.length : Int) by first | omega | assumption | simp_all) h23, fun h23 => ?_⟩
        refine ⟨fun h24 => absurd (show (a.length : Int) ≠ (b.length : Int) by first | omega | assumption | simp_all) h24, fun h24 => ?_⟩
        refine ⟨fun h25 => absurd (show (a.length : Int) ≠ (b.length : Int) by first | omega | assumption | simp_all) h25, fun h25 => ?_⟩
        refine ⟨fun h26 => absurd (show (a.length : Int) ≠ (b.length : Int) by first | omega | assumption | simp_all) h26, fun h26 => ?_⟩
        refine ⟨fun h27 => absurd (show (a.length : Int) ≠ (b.length : Int) by first | omega | assumption | simp_all) h27, fun h27 => ?_⟩
        refine ⟨fun h28 => absurd (show (a.length : Int) ≠ (b.length : Int) by first | omega | assumption | simp_all) h28, fun h28 => ?_⟩
        refine ⟨fun h29 => absurd (show (a.length : Int) ≠ (b.length : Int) by first | omega | assumption | simp_all) h29, fun h29 => ?_⟩
        refine ⟨fun h30 => ?_, fun h30 => absurd (show (a.length : Int) ≠ (b.length : Int) by first | omega | assumption | simp_all) h30⟩
        refine ⟨⟨rfl, rfl, rfl, Nat.le_of_ble_eq_true rfl⟩, ?_⟩
        have e : agE a h b o = 1 := by unfold agE; rw [if_neg fun g => h9 (by have := g.2.2.1; omega)]
        have e3 : agQ a h b o = False := propext ⟨fun g => absurd g.1 (by rw [e]; decide), fun g => g.elim⟩
        rw [e, e3]
        exact ⟨rfl, rfl, rfl, rfl⟩
    · replace h3 : ¬ (rightB b = true) := h3
      refine ⟨fun h31 => absurd (show ¬ (rightB b = true) by first | omega | assumption | simp_all) h31, fun h31 => ?_⟩
      refine ⟨fun h32 => absurd (show ¬ (rightB b = true) by first | omega | assumption | simp_all) h32, fun h32 => ?_⟩
      refine ⟨fun h33 => absurd (show ¬ (rightB b = true) by first | omega | assumption | simp_all) h33, fun h33 => ?_⟩
      refine ⟨fun h34 => absurd (show ¬ (rightB b = true) by first | omega | assumption | simp_all) h34, fun h34 => ?_⟩
      refine ⟨fun h35 => ?_, fun h35 => absurd (show ¬ (rightB b = true) by first | omega | assumption | simp_all) h35⟩
      refine ⟨⟨rfl, rfl, rfl, Nat.le_of_ble_eq_true rfl⟩, ?_⟩
      have e : agE a h b o = 1 := by unfold agE; rw [if_neg fun g => h3 g.2.1]
      have e3 : agQ a h b o = False := propext ⟨fun g => absurd g.1 (by rw [e]; decide), fun g => g.elim⟩
      rw [e, e3]
      exact ⟨rfl, rfl, rfl, rfl⟩
  · replace h0 : ¬ (rightB a = true) := h0
    refine ⟨fun h36 => absurd (show ¬ (rightB a = true) by first | omega | assumption | simp_all) h36, fun h36 => ?_⟩
    refine ⟨fun h37 => ?_, fun h37 => absurd (show ¬ (rightB a = true) by first | omega | assumption | simp_all) h37⟩
    refine ⟨⟨rfl, rfl, rfl, Nat.le_of_ble_eq_true rfl⟩, ?_⟩
    have e : agE a h b o = 1 := by unfold agE; rw [if_neg fun g => h0 g.1]
    have e3 : agQ a h b o = False := propext ⟨fun g => absurd g.1 (by rw [e]; decide), fun g => g.elim⟩
    rw [e, e3]
    exact ⟨rfl, rfl, rfl, rfl⟩
def CRAgr : List (Nat × Con) := (23, pureC [.v (.sl .str), .v (.int .i64), .v (.sl .str), .v (.int .i64)] sRAgr) :: CRVal
theorem kRAgr : Known Tryd.prog (En CRAgr tys G6 QPrs) := kRVal.add Tryd.func23 Tryd.call23 [.k, .k] fun ds p v bs h hp => by
  unfold sRAgr at h
  split at h <;> simp only [Option.some.injEq, Prod.mk.injEq, reduceCtorEq] at h
  obtain ⟨rfl, rfl, rfl⟩ := h
  exact bRAgr _ _ _ _ hp.1 hp.2
def sRUpd : List V → Option (Prop × V × List Blk)
  | [.agg [.int .i64 h, .str bs], .sl false (.sl .str) rs] => some (rs.length ≤ 1048576 ∧ (∀ l ∈ rs, l.length ≤ 1048576), .agg [.int .i64 (updH h bs rs), .str (updS h bs rs), .int .i64 (updE h bs rs)], [])
  | _ => none
set_option maxHeartbeats 2000000 in
theorem bRUpd (h : Int) (bs : List UInt8) (rs : List (List (List UInt8))) (hp0 : rs.length ≤ 1048576) (hp1 : (∀ l ∈ rs, l.length ≤ 1048576)) : bodyP (En CRAgr tys G6 QPrs) Tryd.f29 [.k, .k, .k] [.agg [.int .i64 h, .str bs], .sl false (.sl .str) rs] (.agg [.int .i64 (updH h bs rs), .str (updS h bs rs), .int .i64 (updE h bs rs)]) [] := by
  refine ⟨rfl, trivial, fun h0 => ?_, fun h0 => ?_⟩
  · replace h0 : ¬ (knw h) := h0
    refine ⟨⟨rfl, rfl, rfl, Nat.le_of_ble_eq_true rfl⟩, ?_⟩
    have e : updE h bs rs = 8 := by unfold updE; rw [if_neg h0]
    rw [updH, updS, if_neg (by rw [e]; decide), if_neg (by rw [e]; decide), e]
    exact ⟨rfl, rfl, rfl, rfl⟩
  · replace h0 : ¬ (¬ (knw h)) := h0
    have hk := Classical.not_not.1 h0
    obtain ⟨k1, k2⟩ := id hk
    refine ⟨fun h1 => ?_, fun h1 => ?_⟩
    · replace h1 : 4096 < (bs.length : Int) := h1
      refine ⟨⟨rfl, rfl, rfl, Nat.le_of_ble_eq_true rfl⟩, ?_⟩
      have e : updE h bs rs = 2 := by unfold updE; rw [if_pos hk, if_neg (by omega)]
      rw [updH, updS, if_neg (by rw [e]; decide), if_neg (by rw [e]; decide), e]
      exact ⟨rfl, rfl, rfl, rfl⟩
    · replace h1 : ¬ (4096 < (bs.length : Int)) := h1
      refine ⟨2, [(1, .k), (2, .k), (4, .k), (6, .k)], fun n vs H => ∃ (k : Nat), k ≤ rs.length ∧ (rs.drop k).all (updOk bs) = rs.all (updOk bs) ∧ n = rs.length - k ∧ vs = [.sl false (.sl .str) rs, .ptr 0 1 0 0, .ptr 1 1 0 0, .int .i64 (k : Int)] ∧ H = [.cells [.int .i64 h, .str bs], .cells [.int .i64 0, .str ([]), .int .i64 0]], ⟨rfl, rs.length, 0, by omega, rfl, by omega, rfl, rfl⟩, ?_⟩
      rintro n vs H ⟨k, hc1_0, hc1_1, rfl, rfl, rfl⟩
      refine ⟨fun h2 => ?_, fun h2 => ?_⟩
      · replace h2 : (k : Int) < (rs.length : Int) := h2
        have hkl : k < rs.length := by omega
        have hrl := hp1 _ (getD_mem [] rs k hkl)
        refine ⟨⟨by show (0 : Int) ≤ (k : Int); omega, by show (k : Int) < (rs.length : Int); omega⟩, hrl, by kernel_rfl, fun h3 => ?_, fun h3 => ?_⟩
        · replace h3 : ¬ (¬ (rightB (rs.getD k []) = true)) := h3
          have hr := Classical.not_not.1 h3
          obtain ⟨r1, r2, r3, r4⟩ := right_ok hr
          refine ⟨fun h4 => ?_, fun h4 => absurd h4 (show ¬ (¬ (rightB (rs.getD k []) = true)) by first | omega | assumption | simp_all)⟩
          refine ⟨fun h5 => ?_, fun h5 => absurd h5 (show ¬ (¬ (rightB (rs.getD k []) = true)) by first | omega | assumption | simp_all)⟩
          refine ⟨⟨by show (0 : Int) ≤ (k : Int); omega, by show (k : Int) < (rs.length : Int); omega⟩, fun h6 => ?_, fun h6 => absurd h6 (show ¬ (¬ (rightB (rs.getD k []) = true)) by first | omega | assumption | simp_all)⟩
          refine ⟨fun h7 => ?_, fun h7 => absurd h7 (show ¬ (¬ (rightB (rs.getD k []) = true)) by first | omega | assumption | simp_all)⟩
          refine ⟨⟨by show (0 : Int) ≤ 0; omega, by show 0 < ((rs.getD k []).length : Int); omega⟩, fun h8 => ?_, fun h8 => absurd h8 (show ¬ (¬ (rightB (rs.getD k []) = true)) by first | omega | assumption | simp_all)⟩
          refine ⟨fun h9 => ?_, fun h9 => absurd h9 (show ¬ (¬ (rightB (rs.getD k []) = true)) by first | omega | assumption | simp_all)⟩
          refine ⟨fun h10 => ?_, fun h10 => absurd h10 (show ¬ (¬ (rightB (rs.getD k []) = true)) by first | omega | assumption | simp_all)⟩
          refine ⟨fun h11 => ?_, fun h11 => absurd h11 (show ¬ (¬ (rightB (rs.getD k []) = true)) by first | omega | assumption | simp_all)⟩
          refine ⟨fun h12 => ?_, fun h12 => absurd h12 (show ¬ (¬ (rightB (rs.getD k []) = true)) by first | omega | assumption | simp_all)⟩
          refine ⟨fun h13 => ?_, fun h13 => absurd h13 (show ¬ (¬ (rightB (rs.getD k []) = true)) by first | omega | assumption | simp_all)⟩
          refine ⟨fun h14 => absurd h14 (show ¬ (¬ (rightB (rs.getD k []) = true)) by first | omega | assumption | simp_all), fun h14 => ?_⟩
          refine ⟨fun h15 => ?_, fun h15 => ?_⟩
          · replace h15 : ((((rs.getD k []).getD 0 []).length : Nat) : Int) ≠ (bs.length : Int) := h15
            refine ⟨⟨rfl, rfl, rfl, Nat.le_of_ble_eq_true rfl⟩, ?_⟩
            have hf : rs.all (updOk bs) = false := all_bad (d := []) hkl hc1_1 (updOk_bad2 (by unfold n0; omega))
            have e : updE h bs rs = 1 := by unfold updE; rw [if_pos hk, if_pos (by omega), if_neg (by rw [hf]; decide)]
            rw [updH, updS, if_neg (by rw [e]; decide), if_neg (by rw [e]; decide), e]
            exact ⟨rfl, rfl, rfl, rfl⟩
          · replace h15 : ¬ (((((rs.getD k []).getD 0 []).length : Nat) : Int) ≠ (bs.length : Int)) := h15
            refine ⟨⟨by show (-9223372036854775808 : Int) ≤ ((k : Int) + 1); omega, by show ((k : Int) + 1) ≤ (9223372036854775807 : Int); omega⟩, ?_⟩
            have hok := updOk_yes (b := bs) hr (by unfold n0; omega)
            exact ⟨rfl, rs.length - (k + 1), by omega, k + 1, by omega, all_next (d := []) hkl hc1_1 hok, rfl, rfl, rfl⟩
        · replace h3 : ¬ (rightB (rs.getD k []) = true) := h3
          refine ⟨fun h16 => absurd (show ¬ (rightB (rs.getD k []) = true) by first | omega | assumption | simp_all) h16, fun h16 => ?_⟩
          refine ⟨fun h17 => absurd (show ¬ (rightB (rs.getD k []) = true) by first | omega | assumption | simp_all) h17, fun h17 => ?_⟩
          refine ⟨fun h18 => absurd (show ¬ (rightB (rs.getD k []) = true) by first | omega | assumption | simp_all) h18, fun h18 => ?_⟩
          refine ⟨fun h19 => absurd (show ¬ (rightB (rs.getD k []) = true) by first | omega | assumption | simp_all) h19, fun h19 => ?_⟩
          refine ⟨fun h20 => absurd (show ¬ (rightB (rs.getD k []) = true) by first | omega | assumption | simp_all) h20, fun h20 => ?_⟩
          refine ⟨fun h21 => absurd (show ¬ (rightB (rs.getD k []) = true) by first | omega | assumption | simp_all) h21, fun h21 => ?_⟩
          refine ⟨fun h22 => absurd (show ¬ (rightB (rs.getD k []) = true) by first | omega | assumption | simp_all) h22, fun h22 => ?_⟩
          refine ⟨fun h23 => absurd (show ¬ (rightB (rs.getD k []) = true) by first | omega | assumption | simp_all) h23, fun h23 => ?_⟩
          refine ⟨fun h24 => absurd (show ¬ (rightB (rs.getD k []) = true) by first | omega | assumption | simp_all) h24, fun h24 => ?_⟩
          refine ⟨fun h25 => absurd (show ¬ (rightB (rs.getD k []) = true) by first | omega | assumption | simp_all) h25, fun h25 => ?_⟩
          refine ⟨fun h26 => ?_, fun h26 => absurd (show ¬ (rightB (rs.getD k []) = true) by first | omega | assumption | simp_all) h26⟩
          refine ⟨⟨rfl, rfl, rfl, Nat.le_of_ble_eq_true rfl⟩, ?_⟩
          have hf : rs.all (updOk bs) = false := all_bad (d := []) hkl hc1_1 (updOk_bad1 h3)
          have e : updE h bs rs = 1 := by unfold updE; rw [if_pos hk, if_pos (by omega), if_neg (by rw [hf]; decide)]
          rw [updH, updS, if_neg (by rw [e]; decide), if_neg (by rw [e]; decide), e]
          exact ⟨rfl, rfl, rfl, rfl⟩
      · replace h2 : ¬ ((k : Int) < (rs.length : Int)) := h2
        have hall : rs.all (updOk bs) = true := all_stop (by omega) hc1_1
        have hev := List.all_eq_true.1 hall
        refine ⟨2, [(1, .k), (2, .k), (4, .k), (8, .k)], fun n vs H => ∃ (k : Nat), k ≤ rs.length ∧ n = rs.length - k ∧ vs = [.sl false (.sl .str) rs, .ptr 0 1 0 0, .ptr 1 1 0 0, .int .i64 (k : Int)] ∧ H = [.cells [.int .i64 h, .str (updB h bs (rs.take k))], .cells [.int .i64 0, .str ([]), .int .i64 0]], ⟨rfl, rs.length, 0, by omega, by omega, rfl, rfl⟩, ?_⟩
        rintro n vs H ⟨k, hc2_0, rfl, rfl, rfl⟩
        refine ⟨fun h27 => ?_, fun h27 => ?_⟩
        · replace h27 : (k : Int) < (rs.length : Int) := h27
          have hkm : k < rs.length := by omega
          obtain ⟨hr, hn⟩ := updOk_no (hev _ (getD_mem [] rs k hkm))
          obtain ⟨r1, r2, r3, r4⟩ := right_ok hr
          have hl1 := upd_len (h := h) (b := bs) (rs.take k) bs rfl (fun x hx => hev x (List.mem_of_mem_take hx))
          replace hn : ((rs.getD k []).getD 0 []).length = bs.length := hn
          refine ⟨by kernel_rfl, ⟨by show (-9223372036854775808 : Int) ≤ (h + 1); omega, by show (h + 1) ≤ (9223372036854775807 : Int); omega⟩, ⟨by show (0 : Int) ≤ (k : Int); omega, by show (k : Int) < (rs.length : Int); omega⟩, ⟨by show (0 : Int) ≤ 0; omega, by show 0 < ((rs.getD k []).length : Int); omega⟩, by show ((rs.getD k []).getD 0 []).length ≤ 1000000000; first | omega | assumption | (simp only [List.length_cons, List.length_nil, List.length_append, List.length_take, List.length_drop, List.length_set, List.length_replicate]; omega), ⟨by show (updB h bs (rs.take k)).length ≤ 1000000000; first | omega | assumption | (simp only [List.length_cons, List.length_nil, List.length_append, List.length_take, List.length_drop, List.length_set, List.length_replicate]; omega), by show (scaleB (UInt8.ofNat ((h + 1) % 256).toNat) ((rs.getD k []).getD 0 [])).length ≤ 1000000000; rw [scale_len]; omega⟩, ⟨rfl, rfl, rfl⟩, ⟨by show (-9223372036854775808 : Int) ≤ ((k : Int) + 1); omega, by show ((k : Int) + 1) ≤ (9223372036854775807 : Int); omega⟩, ?_⟩
          exact ⟨rfl, rs.length - (k + 1), by omega, k + 1, by omega, rfl, rfl, by rw [upd_snoc hkm]; rfl⟩
        · replace h27 : ¬ ((k : Int) < (rs.length : Int)) := h27
          refine ⟨⟨rfl, rfl, rfl, Nat.le_of_ble_eq_true rfl⟩, ?_⟩
          have e : updE h bs rs = 0 := by unfold updE; rw [if_pos hk, if_pos (by omega), if_pos hall]
          rw [updH, updS, if_pos e, if_pos e, e, show updB h bs rs = updB h bs (rs.take k) by rw [List.take_of_length_le (by omega)]]
          exact ⟨rfl, rfl, rfl, rfl⟩
def CRUpd : List (Nat × Con) := (29, pureC [.v (.cons (.int .i64) (.cons .str .nil)), .v (.sl (.sl .str))] sRUpd) :: CRAgr
theorem kRUpd : Known Tryd.prog (En CRUpd tys G6 QPrs) := kRAgr.add Tryd.func29 Tryd.call29 [.k, .k, .k] fun ds p v bs h hp => by
  unfold sRUpd at h
  split at h <;> simp only [Option.some.injEq, Prod.mk.injEq, reduceCtorEq] at h
  obtain ⟨rfl, rfl, rfl⟩ := h
  exact bRUpd _ _ _ hp.1 hp.2
end Go.Proofs.YtmkphnlpbngenaaDoor.S27

namespace Go.Proofs.YtmkphnlpbngenaaDoor.S27
open Go Go.Proofs.YtmkphnlpbngenaaDoor.Vc Go.Proofs
set_option maxRecDepth 100000
set_option linter.unusedVariables false

def sRCmp : List V → Option (Prop × V × List Blk)
  | [.sl false (.sl .str) rs] => some (rs.length ≤ 1048576 ∧ (∀ l ∈ rs, l.length ≤ 1048576 ∧ ∀ x ∈ l, x.length ≤ 1048576), .agg [.own (.arr 2 (.int .i64)) 0, .int .i64 (cmpE rs)], [.row true (.arr 2 (.int .i64)) (cmpL rs)])
  | _ => none
set_option maxHeartbeats 2000000 in
theorem bRCmp (rs : List (List (List UInt8))) (hp0 : rs.length ≤ 1048576) (hp1 : (∀ l ∈ rs, l.length ≤ 1048576 ∧ ∀ x ∈ l, x.length ≤ 1048576)) : bodyP (En CRUpd tys G6 QPrs) Tryd.f25 [.o (.arr 2 (.int .i64)), .k] [.sl false (.sl .str) rs] (.agg [.own (.arr 2 (.int .i64)) 0, .int .i64 (cmpE rs)]) [.row true (.arr 2 (.int .i64)) (cmpL rs)] := by
  refine ⟨fun h0 => ?_, fun h0 => ?_⟩
  · replace h0 : 12 < (rs.length : Int) := h0
    refine ⟨⟨rfl, rfl, rfl, Nat.le_of_ble_eq_true rfl⟩, ?_⟩
    have e : cmpE rs = 2 := if_pos (by omega)
    have e4 : cmpL rs = [] := if_neg (by rw [e]; decide)
    rw [e4, e]
    exact ⟨rfl, rfl, rfl, rfl⟩
  · replace h0 : ¬ (12 < (rs.length : Int)) := h0
    have hpl := pairs_len (rows := rs) (by omega)
    refine ⟨1, [(0, .k), (2, .k), (3, .k)], fun n vs H => ∃ (k : Nat), k ≤ rs.length ∧ (rs.drop k).all rgtB = rs.all rgtB ∧ n = rs.length - k ∧ vs = [.sl false (.sl .str) rs, .ptr 0 1 0 0, .int .i64 (k : Int)] ∧ H = [.cells [.nils, .int .i64 0]], ⟨rfl, rs.length, 0, by omega, rfl, by omega, rfl, rfl⟩, ?_⟩
    rintro n vs H ⟨k, hc1_0, hc1_1, rfl, rfl, rfl⟩
    refine ⟨fun h1 => ?_, fun h1 => ?_⟩
    · replace h1 : (k : Int) < (rs.length : Int) := h1
      have hkl : k < rs.length := by omega
      have hkx := (hp1 _ (getD_mem [] rs k hkl)).1
      refine ⟨⟨by show (0 : Int) ≤ (k : Int); omega, by show (k : Int) < (rs.length : Int); omega⟩, (hp1 _ (getD_mem [] rs _ (by omega))).1, ⟨by show (0 : Int) ≤ (k : Int); omega, by show (k : Int) < (rs.length : Int); omega⟩, fun h2 => ?_, fun h2 => ?_⟩
      · replace h2 : 0 < (((rs.getD k []).length : Nat) : Int) := h2
        refine ⟨fun h3 => ?_, fun h3 => ?_⟩
        · replace h3 : ¬ (rightB (rs.getD k []) = true) := h3
          refine ⟨⟨rfl, rfl, rfl, Nat.le_of_ble_eq_true rfl⟩, ?_⟩
          have hf : rs.all rgtB = false := all_bad (d := []) hkl hc1_1 (rgtB_no (by omega) h3)
          have e : cmpE rs = 1 := by unfold cmpE; rw [if_neg (by omega), if_pos hf]
          have e4 : cmpL rs = [] := if_neg (by rw [e]; decide)
          rw [e4, e]
          exact ⟨rfl, rfl, rfl, rfl⟩
        · replace h3 : ¬ (¬ (rightB (rs.getD k []) = true)) := h3
          have hok := rgtB_yes (Classical.not_not.1 h3)
          refine ⟨⟨by show (-9223372036854775808 : Int) ≤ ((k : Int) + 1); omega, by show ((k : Int) + 1) ≤ (9223372036854775807 : Int); omega⟩, ?_⟩
          exact ⟨rfl, rs.length - (k + 1), by omega, k + 1, by omega, all_next (d := []) hkl hc1_1 hok, rfl, rfl, rfl⟩
      · replace h2 : ¬ (0 < (((rs.getD k []).length : Nat) : Int)) := h2
        have hok := rgtB_nil (r := rs.getD k []) (by omega)
        refine ⟨⟨by show (-9223372036854775808 : Int) ≤ ((k : Int) + 1); omega, by show ((k : Int) + 1) ≤ (9223372036854775807 : Int); omega⟩, ?_⟩
        exact ⟨rfl, rs.length - (k + 1), by omega, k + 1, by omega, all_next (d := []) hkl hc1_1 hok, rfl, rfl, rfl⟩
    · replace h1 : ¬ ((k : Int) < (rs.length : Int)) := h1
      have hall : rs.all rgtB = true := all_stop (by omega) hc1_1
      have hrg : ∀ r ∈ rs, 0 < r.length → rightB r = true := fun r hr h => rgtB_ok h (List.all_eq_true.1 hall r hr)
      refine ⟨1, [(0, .k), (2, .k), (5, .o (.arr 2 (.int .i64))), (6, .k)], fun n vs H => ∃ (i k : Nat), i ≤ rs.length ∧ k ≤ (pairsL rs).length ∧ ((pairsL rs).drop k).all (alkB rs) = (pairsL rs).all (alkB rs) ∧ (pairsL rs).drop k = prA rs (rs.length - i) i ∧ n = rs.length - i ∧ vs = [.sl false (.sl .str) rs, .ptr 0 1 0 0, .own (.arr 2 (.int .i64)) 1, .int .i64 (i : Int)] ∧ H = [.cells [.nils, .int .i64 0], .row true (.arr 2 (.int .i64)) (cmpO rs ((pairsL rs).take k))], ⟨rfl, rs.length, 0, 0, by omega, by omega, rfl, rfl, by omega, rfl, rfl⟩, ?_⟩
      rintro n vs H ⟨i, k, hc2_0, hc2_1, hc2_2, hc2_3, rfl, rfl, rfl⟩
      refine ⟨fun h4 => ?_, fun h4 => ?_⟩
      · replace h4 : (i : Int) < (rs.length : Int) := h4
        obtain ⟨f, hf⟩ : ∃ f, rs.length - i = f + 1 := ⟨rs.length - i - 1, by omega⟩
        have hf2 : rs.length - (i + 1) = f := by omega
        rw [hf, prA] at hc2_3
        refine ⟨⟨by show (-9223372036854775808 : Int) ≤ ((i : Int) + 1); omega, by show ((i : Int) + 1) ≤ (9223372036854775807 : Int); omega⟩, 1, [(0, .k), (2, .k), (5, .o (.arr 2 (.int .i64))), (6, .k), (7, .k)], fun n vs H => ∃ (j k : Nat), i < j ∧ k ≤ (pairsL rs).length ∧ ((pairsL rs).drop k).all (alkB rs) = (pairsL rs).all (alkB rs) ∧ (pairsL rs).drop k = prJ rs i (rs.length - j) j ++ prA rs (rs.length - (i + 1)) (i + 1) ∧ n = rs.length - j ∧ vs = [.sl false (.sl .str) rs, .ptr 0 1 0 0, .own (.arr 2 (.int .i64)) 1, .int .i64 (i : Int), .int .i64 (j : Int)] ∧ H = [.cells [.nils, .int .i64 0], .row true (.arr 2 (.int .i64)) (cmpO rs ((pairsL rs).take k))], ⟨rfl, rs.length - (i + 1), i + 1, k, by omega, by omega, hc2_2, by rw [hf2] at hc2_3 ⊢; exact hc2_3, by omega, rfl, rfl⟩, ?_⟩
        rintro n vs H ⟨j, k, hc3_0, hc3_1, hc3_2, hc3_3, rfl, rfl, rfl⟩
        refine ⟨fun h5 => ?_, fun h5 => ?_⟩
        · replace h5 : (j : Int) < (rs.length : Int) := h5
          obtain ⟨m, hm⟩ : ∃ m, rs.length - j = m + 1 := ⟨rs.length - j - 1, by omega⟩
          have hm2 : rs.length - (j + 1) = m := by omega
          rw [hm, prJ] at hc3_3
          refine ⟨⟨by show (0 : Int) ≤ (i : Int); omega, by show (i : Int) < (rs.length : Int); omega⟩, fun h6 => ?_, fun h6 => ?_⟩
          · replace h6 : ¬ ((((rs.getD i []).length : Nat) : Int) = 0) := h6
            refine ⟨⟨by show (0 : Int) ≤ (j : Int); omega, by show (j : Int) < (rs.length : Int); omega⟩, fun h7 => ?_, fun h7 => ?_⟩
            · replace h7 : (((rs.getD j []).length : Nat) : Int) = 0 := h7
              rw [if_neg (show ¬ prOk rs i j = true by unfold prOk; rw [decide_eq_true_eq]; omega)] at hc3_3
              refine ⟨⟨by show (-9223372036854775808 : Int) ≤ ((j : Int) + 1); omega, by show ((j : Int) + 1) ≤ (9223372036854775807 : Int); omega⟩, ?_⟩
              first
              | exact ⟨rfl, rs.length - (j + 1), by omega, j + 1, k + 1, by omega, by omega, all_next (d := (0, 0)) y1 hc3_2 hok, by rw [hm2]; exact y3, rfl, rfl, by rw [cmpO_snoc rs _ k y1, if_pos hod, y2]; kernel_rfl⟩
              | exact ⟨rfl, rs.length - (j + 1), by omega, j + 1, k + 1, by omega, by omega, all_next (d := (0, 0)) y1 hc3_2 hok, by rw [hm2]; exact y3, rfl, rfl, by rw [cmpO_snoc rs _ k y1, if_neg hod, List.append_nil]; rfl⟩
              | exact ⟨rfl, rs.length - (j + 1), by omega, j + 1, k, by omega, hc3_1, hc3_2, by rw [hm2]; exact hc3_3, rfl, rfl, rfl⟩
            · replace h7 : ¬ ((((rs.getD j []).length : Nat) : Int) = 0) := h7
              rw [if_pos (show prOk rs i j = true from decide_eq_true ⟨by omega, by omega⟩), List.cons_append] at hc3_3
              obtain ⟨y1, y2, y3⟩ := drop_cons (d := (0, 0)) hc3_3
              have R0 := hrg _ (getD_mem [] rs i (by omega)) (by omega)
              have R1 := hrg _ (getD_mem [] rs j (by omega)) (by omega)
              have K0 : knw (i : Int) := ⟨by omega, by omega⟩
              have K1 : knw (j : Int) := ⟨by omega, by omega⟩
              have hcl := cmpO_len rs ((pairsL rs).take k)
              rw [List.length_take] at hcl
              refine ⟨by kernel_rfl, ⟨by show (0 : Int) ≤ (i : Int); omega, by show (i : Int) < (rs.length : Int); omega⟩, ⟨by show (0 : Int) ≤ (j : Int); omega, by show (j : Int) < (rs.length : Int); omega⟩, rfl, rfl, ⟨(hp1 _ (getD_mem [] rs _ (by omega))).1, (hp1 _ (getD_mem [] rs _ (by omega))).1⟩, ⟨rfl, rfl, rfl, Nat.le_of_ble_eq_true rfl⟩, fun h8 => ?_, fun h8 => ?_⟩
              · replace h8 : (agE (rs.getD i []) (i : Int) (rs.getD j []) (j : Int)) ≠ 0 := h8
                have hal : ¬ alikeP (rs.getD i []) (rs.getD j []) := fun g => h8 (by unfold agE; rw [if_pos ⟨R0, R1, g⟩, if_pos ⟨K0, K1⟩])
                refine ⟨⟨rfl, rfl, rfl, Nat.le_of_ble_eq_true rfl⟩, ?_⟩
                have hf : (pairsL rs).all (alkB rs) = false := all_bad (d := (0, 0)) y1 hc3_2 (by rw [y2]; exact alkB_no hal)
                have e : cmpE rs = 1 := by unfold cmpE; rw [if_neg (by omega), if_neg (by rw [hall]; decide), if_pos hf]
                have e4 : cmpL rs = [] := if_neg (by rw [e]; decide)
                rw [e4, e]
                exact ⟨rfl, rfl, rfl, rfl⟩
              · replace h8 : ¬ ((agE (rs.getD i []) (i : Int) (rs.getD j []) (j : Int)) ≠ 0) := h8
                have hal : alikeP (rs.getD i []) (rs.getD j []) := Classical.byContradiction fun g => h8 (by unfold agE; rw [if_neg (fun q => g q.2.2)]; decide)
                have hag := Classical.not_not.1 h8
                have hok : alkB rs ((pairsL rs).getD k (0, 0)) = true := by rw [y2]; exact alkB_yes hal
                refine ⟨fun h9 => ?_, fun h9 => ?_⟩
                · replace h9 : ¬ (agQ (rs.getD i []) (i : Int) (rs.getD j []) (j : Int)) := h9
                  have hod : oddB rs ((pairsL rs).getD k (0, 0)) = true := by rw [y2]; exact oddB_yes (fun g => h9 ⟨hag, g⟩)
                  refine ⟨rfl, rfl, ⟨rfl, rfl⟩, by show (cmpO rs ((pairsL rs).take k)).length + ([([(i : Int), (j : Int)] : List Int)] : List (List Int)).length ≤ 1000000000; simp only [List.length_cons, List.length_nil]; omega, ⟨by show (-9223372036854775808 : Int) ≤ ((j : Int) + 1); omega, by show ((j : Int) + 1) ≤ (9223372036854775807 : Int); omega⟩, ?_⟩
                  first
                  | exact ⟨rfl, rs.length - (j + 1), by omega, j + 1, k + 1, by omega, by omega, all_next (d := (0, 0)) y1 hc3_2 hok, by rw [hm2]; exact y3, rfl, rfl, by rw [cmpO_snoc rs _ k y1, if_pos hod, y2]; kernel_rfl⟩
                  | exact ⟨rfl, rs.length - (j + 1), by omega, j + 1, k + 1, by omega, by omega, all_next (d := (0, 0)) y1 hc3_2 hok, by rw [hm2]; exact y3, rfl, rfl, by rw [cmpO_snoc rs _ k y1, if_neg hod, List.append_nil]; rfl⟩
                  | exact ⟨rfl, rs.length - (j + 1), by omega, j + 1, k, by omega, hc3_1, hc3_2, by rw [hm2]; exact hc3_3, rfl, rfl, rfl⟩
                · replace h9 : ¬ (¬ (agQ (rs.getD i []) (i : Int) (rs.getD j []) (j : Int))) := h9
                  have hod : ¬ oddB rs ((pairsL rs).getD k (0, 0)) = true := by rw [y2]; exact oddB_no (Classical.not_not.1 h9).2
                  refine ⟨⟨by show (-9223372036854775808 : Int) ≤ ((j : Int) + 1); omega, by show ((j : Int) + 1) ≤ (9223372036854775807 : Int); omega⟩, ?_⟩
                  first
                  | exact ⟨rfl, rs.length - (j + 1), by omega, j + 1, k + 1, by omega, by omega, all_next (d := (0, 0)) y1 hc3_2 hok, by rw [hm2]; exact y3, rfl, rfl, by rw [cmpO_snoc rs _ k y1, if_pos hod, y2]; kernel_rfl⟩
                  | exact ⟨rfl, rs.length - (j + 1), by omega, j + 1, k + 1, by omega, by omega, all_next (d := (0, 0)) y1 hc3_2 hok, by rw [hm2]; exact y3, rfl, rfl, by rw [cmpO_snoc rs _ k y1, if_neg hod, List.append_nil]; rfl⟩
                  | exact ⟨rfl, rs.length - (j + 1), by omega, j + 1, k, by omega, hc3_1, hc3_2, by rw [hm2]; exact hc3_3, rfl, rfl, rfl⟩
          · replace h6 : (((rs.getD i []).length : Nat) : Int) = 0 := h6
            rw [if_neg (show ¬ prOk rs i j = true by unfold prOk; rw [decide_eq_true_eq]; omega)] at hc3_3
            refine ⟨⟨by show (-9223372036854775808 : Int) ≤ ((j : Int) + 1); omega, by show ((j : Int) + 1) ≤ (9223372036854775807 : Int); omega⟩, ?_⟩
            first
            | exact ⟨rfl, rs.length - (j + 1), by omega, j + 1, k + 1, by omega, by omega, all_next (d := (0, 0)) y1 hc3_2 hok, by rw [hm2]; exact y3, rfl, rfl, by rw [cmpO_snoc rs _ k y1, if_pos hod, y2]; kernel_rfl⟩
            | exact ⟨rfl, rs.length - (j + 1), by omega, j + 1, k + 1, by omega, by omega, all_next (d := (0, 0)) y1 hc3_2 hok, by rw [hm2]; exact y3, rfl, rfl, by rw [cmpO_snoc rs _ k y1, if_neg hod, List.append_nil]; rfl⟩
            | exact ⟨rfl, rs.length - (j + 1), by omega, j + 1, k, by omega, hc3_1, hc3_2, by rw [hm2]; exact hc3_3, rfl, rfl, rfl⟩
        · replace h5 : ¬ ((j : Int) < (rs.length : Int)) := h5
          rw [show rs.length - j = 0 by omega, prJ, List.nil_append] at hc3_3
          refine ⟨⟨by show (-9223372036854775808 : Int) ≤ ((i : Int) + 1); omega, by show ((i : Int) + 1) ≤ (9223372036854775807 : Int); omega⟩, ?_⟩
          exact ⟨rfl, rs.length - (i + 1), by omega, i + 1, k, by omega, hc3_1, hc3_2, hc3_3, rfl, rfl, rfl⟩
      · replace h4 : ¬ ((i : Int) < (rs.length : Int)) := h4
        rw [show rs.length - i = 0 by omega, prA] at hc2_3
        have hz := drop_nil hc2_1 hc2_3
        refine ⟨⟨rfl, rfl, rfl, Nat.le_of_ble_eq_true rfl⟩, ?_⟩
        have hf : (pairsL rs).all (alkB rs) = true := all_stop (by omega) hc2_2
        have e : cmpE rs = 0 := by unfold cmpE; rw [if_neg (by omega), if_neg (by rw [hall]; decide), if_neg (by rw [hf]; decide)]
        have e4 : cmpL rs = cmpO rs ((pairsL rs).take k) := by rw [cmpL, if_pos e, hz, List.take_length]
        rw [e4, e]
        exact ⟨rfl, rfl, rfl, rfl⟩
def CRCmp : List (Nat × Con) := (25, pureC [.v (.sl (.sl .str))] sRCmp) :: CRUpd
theorem kRCmp : Known Tryd.prog (En CRCmp tys G6 QPrs) := kRUpd.add Tryd.func25 Tryd.call25 [.o (.arr 2 (.int .i64)), .k] fun ds p v bs h hp => by
  unfold sRCmp at h
  split at h <;> simp only [Option.some.injEq, Prod.mk.injEq, reduceCtorEq] at h
  obtain ⟨rfl, rfl, rfl⟩ := h
  exact bRCmp _ hp.1 hp.2
end Go.Proofs.YtmkphnlpbngenaaDoor.S27

namespace Go.Proofs.YtmkphnlpbngenaaDoor.S27
open Go Go.Proofs.YtmkphnlpbngenaaDoor.Vc Go.Proofs
set_option maxRecDepth 100000

/-! ### The specification's interpolation -/
theorem lin2_val (z x c : UInt8) : horner z [mulL x c, c] = mulL (z ^^^ x) c := by
  show mulL (mulL 0 z ^^^ c) z ^^^ mulL x c = _
  rw [zero_mul', UInt8.zero_xor, mul_comm' c z, mulL_add]
theorem lnA_keep (z xk : UInt8) (k : Nat) (hz : z = xk) : ∀ (xs : List UInt8) (i : Nat) (p : List UInt8), (∀ m, m < xs.length → i + m ≠ k → xs.getD m 0 ≠ xk) → horner z (lnA xk k xs i p) = horner z p
  | [], i, p, _ => rfl
  | x :: xs, i, p, h => by
    rw [lnA, lnA_keep z xk k hz xs (i + 1) _ fun m hm hne => h (m + 1) (by simpa using hm) (by omega)]
    by_cases hi : i ≠ k
    · rw [if_pos hi, horner_prod, lin2_val, hz]
      have hx : x ≠ xk := h 0 (by simp) (by omega)
      rw [mul_inv' _ (fun e => hx (xor_zero_iff.1 e).symm), mul_one']
    · rw [if_neg hi]
theorem lnA_dies (z xk : UInt8) (k : Nat) : ∀ (xs : List UInt8) (i : Nat) (p : List UInt8), (horner z p = 0 → horner z (lnA xk k xs i p) = 0) ∧ ∀ m, m < xs.length → i + m ≠ k → xs.getD m 0 = z → horner z (lnA xk k xs i p) = 0
  | [], i, p => ⟨fun h => h, fun m hm => by simp at hm⟩
  | x :: xs, i, p => by
    rw [lnA]
    obtain ⟨h1, h2⟩ := lnA_dies z xk k xs (i + 1) (if i ≠ k then prodL p [mulL x (invL (xk ^^^ x)), invL (xk ^^^ x)] else p)
    refine ⟨fun h => h1 ?_, fun m hm hne he => ?_⟩
    · split
      · rw [horner_prod, h, zero_mul']
      · exact h
    · cases m with
      | zero =>
        have he : x = z := he
        refine h1 ?_
        rw [if_pos (by omega), horner_prod, lin2_val, he, UInt8.xor_self, zero_mul', mul_zero']
      | succ m => exact h2 m (by simpa using hm) (by omega) he
theorem lnA_sz (xk : UInt8) (k : Nat) : ∀ (xs : List UInt8) (i : Nat) (p : List UInt8), sz (lnA xk k xs i p) ≤ sz p + xs.length ∧ (i ≤ k → k < i + xs.length → sz (lnA xk k xs i p) + 1 ≤ sz p + xs.length)
  | [], i, p => ⟨Nat.le_refl _, fun h1 h2 => by simp at h2; omega⟩
  | x :: xs, i, p => by
    rw [lnA]
    obtain ⟨h1, h2⟩ := lnA_sz xk k xs (i + 1) (if i ≠ k then prodL p [mulL x (invL (xk ^^^ x)), invL (xk ^^^ x)] else p)
    have h3 := sz_prod_le p [mulL x (invL (xk ^^^ x)), invL (xk ^^^ x)]
    have h4 := sz_len [mulL x (invL (xk ^^^ x)), invL (xk ^^^ x)]
    simp only [List.length_cons, List.length_nil] at h4 ⊢
    by_cases hi : i = k
    · rw [if_neg (by omega)] at h1 h2 ⊢
      exact ⟨by omega, fun _ _ => by omega⟩
    · rw [if_pos hi] at h1 h2 ⊢
      exact ⟨by omega, fun h5 h6 => by have := h2 (by omega) (by omega); omega⟩
theorem nodup_inj (xs : List UInt8) (hn : xs.Nodup) (i j : Nat) (hi : i < xs.length) (hj : j < xs.length) (h : xs.getD i 0 = xs.getD j 0) : i = j := by
  simp only [List.getD_eq_getElem?_getD, List.getElem?_eq_getElem hi, List.getElem?_eq_getElem hj, Option.getD_some] at h
  have hp := List.pairwise_iff_getElem.1 hn
  rcases Nat.lt_trichotomy i j with g | g | g
  · exact absurd h (hp i j hi hj g)
  · exact g
  · exact absurd h.symm (hp j i hj hi g)
theorem lnO_val (xs ys : List UInt8) (hn : xs.Nodup) (j : Nat) (hj : j < xs.length) : ∀ (f k : Nat) (out : List UInt8), k + f = xs.length → horner (xs.getD j 0) (lnO xs ys f k out) = horner (xs.getD j 0) out ^^^ (if k ≤ j then ys.getD j 0 else 0)
  | 0, k, out, h => by rw [lnO, if_neg (by omega)]; simp
  | f + 1, k, out, h => by
    rw [lnO, lnO_val xs ys hn j hj f (k + 1) _ (by omega), horner_sum]
    have hne : ∀ m, m < xs.length → m ≠ k → xs.getD m 0 ≠ xs.getD k 0 := fun m hm hmk e => by
      have hk : k < xs.length := by omega
      exact hmk (nodup_inj xs hn m k hm hk e)
    by_cases hjk : j = k
    · have h1 := lnA_keep (xs.getD j 0) (xs.getD k 0) k (by rw [hjk]) xs 0 [ys.getD k 0] fun m hm hmk => hne m hm (by omega)
      rw [h1, horner_const, if_neg (by omega), if_pos (by omega), hjk]
      simp
    · have h1 := (lnA_dies (xs.getD j 0) (xs.getD k 0) k xs 0 [ys.getD k 0]).2 j hj (by omega) rfl
      rw [h1]
      by_cases hlt : k ≤ j
      · rw [if_pos (by omega), if_pos hlt]; simp
      · rw [if_neg (by omega), if_neg hlt]; simp
theorem lnO_sz (xs ys : List UInt8) : ∀ (f k : Nat) (out : List UInt8), k + f = xs.length → sz out ≤ xs.length → sz (lnO xs ys f k out) ≤ xs.length
  | 0, k, out, _, h => h
  | f + 1, k, out, hk, h => by
    rw [lnO]
    refine lnO_sz xs ys f (k + 1) _ (by omega) (sz_sum_le _ _ _ h ?_)
    have h1 := (lnA_sz (xs.getD k 0) k xs 0 [ys.getD k 0]).2 (Nat.zero_le _) (by omega)
    have h2 := sz_len [ys.getD k 0]
    simp only [List.length_cons, List.length_nil] at h2
    omega
theorem lnO_trim (xs ys : List UInt8) : ∀ (f k : Nat) (out : List UInt8), trimL out = out → trimL (lnO xs ys f k out) = lnO xs ys f k out
  | 0, k, out, h => h
  | f + 1, k, out, _ => lnO_trim xs ys f (k + 1) _ (sum_trim _ _)
theorem lineL_val (xs ys : List UInt8) (hn : xs.Nodup) (j : Nat) (hj : j < xs.length) : horner (xs.getD j 0) (lineL xs ys) = ys.getD j 0 := by
  unfold lineL
  rw [lnO_val xs ys hn j hj _ _ _ (by omega), if_pos (by omega)]
  show 0 ^^^ _ = _
  simp
theorem lineL_sz (xs ys : List UInt8) : sz (lineL xs ys) ≤ xs.length := lnO_sz xs ys _ _ _ (by omega) (Nat.zero_le _)
theorem lineL_trim (xs ys : List UInt8) : trimL (lineL xs ys) = lineL xs ys := lnO_trim xs ys _ _ _ rfl
theorem thr_line (xs ys : List UInt8) (h : rightP xs ys) : thrL xs ys = lineL xs ys := by
  rw [← lineL_trim]
  exact thrL_unique xs ys _ h (lineL_sz xs ys) fun k hk => lineL_val xs ys h.1 k hk
end Go.Proofs.YtmkphnlpbngenaaDoor.S27

namespace Go.Proofs.YtmkphnlpbngenaaDoor.S27
open Go

/-! ### a row from others, byte for byte -/
def outB (ps : List UInt8) (vs : Rw) (m k : Nat) : Rw := (List.range m).map fun a => (List.range k).map fun j => co (lineL ps (colL vs j)) a
def outC (ps : List UInt8) (vs : Rw) (m k a : Nat) : Rw := (List.range m).map fun i => (List.range (if i < a then k + 1 else k)).map fun j => co (lineL ps (colL vs j)) i
theorem outB_len (ps : List UInt8) (vs : Rw) (m k : Nat) : (outB ps vs m k).length = m := by simp [outB]
theorem outC_len (ps : List UInt8) (vs : Rw) (m k a : Nat) : (outC ps vs m k a).length = m := by simp [outC]
theorem outB_zero (ps : List UInt8) (vs : Rw) (m : Nat) : outB ps vs m 0 = List.replicate m [] := by
  apply List.ext_getElem
  · simp [outB]
  · intro i h1 h2; rw [List.getElem_replicate]; simp [outB]
theorem outC_zero (ps : List UInt8) (vs : Rw) (m k : Nat) : outC ps vs m k 0 = outB ps vs m k := by
  unfold outC outB
  apply List.map_congr_left
  intro i _
  rw [if_neg (by omega)]
theorem outC_all (ps : List UInt8) (vs : Rw) (m k : Nat) : outC ps vs m k m = outB ps vs m (k + 1) := by
  unfold outC outB
  apply List.map_congr_left
  intro i hi
  rw [if_pos (List.mem_range.1 hi)]
theorem outC_get {ps : List UInt8} {vs : Rw} {m k a : Nat} (h : a < m) : (outC ps vs m k a).getD a [] = (List.range k).map fun j => co (lineL ps (colL vs j)) a := by
  simp [outC, List.getD_eq_getElem?_getD, h]
theorem outC_gl {ps : List UInt8} {vs : Rw} {m k a : Nat} (h : a < m) : ((outC ps vs m k a).getD a []).length = k := by rw [outC_get h]; simp
theorem outC_set {ps : List UInt8} {vs : Rw} {m k a : Nat} (h : a < m) {x : UInt8} (hx : x = co (lineL ps (colL vs k)) a) : (outC ps vs m k a).set a ((outC ps vs m k a).getD a [] ++ [x]) = outC ps vs m k (a + 1) := by
  rw [outC_get h]
  apply List.ext_getElem
  · rw [List.length_set, outC_len, outC_len]
  · intro i h1 h2
    rw [List.getElem_set]
    simp only [outC, List.getElem_map, List.getElem_range]
    by_cases e : a = i
    · subst e
      rw [if_pos rfl, if_pos (by omega), List.range_succ, List.map_append, hx]; rfl
    · rw [if_neg e]
      by_cases g : i < a
      · rw [if_pos g, if_pos (by omega)]
      · rw [if_neg g, if_neg (by omega)]
theorem line_co (ps : List UInt8) (hn : ps.Nodup) (ys : List UInt8) (hl : ps.length = ys.length) (a : Nat) : co (lineL ps ys) a = xs' (fun k => mulL (co (lag ps k) a) (ys.getD k 0)) ps.length := by
  have hr : rightP ps ys := ⟨hn, hl⟩
  rw [← thr_line ps ys hr]
  exact (lag_co ps hn (thrL ps ys) (thrL_sz ps ys) (fun k => ys.getD k 0) (fun k hk => (thrL_val ps ys hr k hk).symm) a).symm
theorem line_len (ps ys : List UInt8) : (lineL ps ys).length ≤ ps.length := by
  have := lineL_sz ps ys
  unfold sz at this
  rwa [lineL_trim] at this
theorem full_take (rows : List Rw) {k n : Nat} (h : k ≤ n) : fullK rows k = (fullK rows n).take (fullK rows k).length := by
  obtain ⟨d, rfl⟩ := Nat.exists_eq_add_of_le h
  unfold fullK
  rw [List.range_add, List.filter_append, List.take_left]
theorem pts_take (rows : List Rw) {k n : Nat} (h : k ≤ n) : ptsK rows k = (ptsK rows n).take (fullK rows k).length := by
  unfold ptsK
  rw [← List.map_take, ← full_take rows h]
theorem vls_take (rows : List Rw) (x : Int) {k n : Nat} (h : k ≤ n) : vlsK rows x k = (vlsK rows x n).take (fullK rows k).length := by
  unfold vlsK
  rw [← List.map_take, ← full_take rows h]
theorem outB_rfl {rows : List Rw} {m N : Nat} (H : RowsOk rows m N) (h : Int) (hm : lastK rows rows.length = m) {k : Nat} (hk : k ≤ rows.length) (hf : (fullK rows k).length = m) : outB (ptsK rows k) (vlsK rows h k) m N = rflO rows h rows.length := by
  have hle : m ≤ (fullK rows rows.length).length := by
    have := full_take rows hk
    have h2 := congrArg List.length this
    rw [List.length_take] at h2; omega
  obtain ⟨r1, r2⟩ := rfl_len H h hle hm
  refine row_ext (m := m) (N := N) (outB_len _ _ _ _) r1 (fun s hs => ?_) r2 fun a j ha hj => ?_
  · obtain ⟨a, _, rfl⟩ := List.mem_map.1 hs; simp
  · rw [rfl_co H h hle hm ha hj]
    have e1 : ((outB (ptsK rows k) (vlsK rows h k) m N).getD a []).getD j 0 = co (lineL (ptsK rows k) (colL (vlsK rows h k) j)) a := by simp [outB, List.getD_eq_getElem?_getD, ha, hj]
    have e2 : ptsK rows k = psM rows m := by rw [pts_take rows hk, hf]; rfl
    have hp := psM_len hle
    rw [e1, e2, line_co _ (psM_nodup H.len) _ (by rw [hp, colL_len, vls_len, hf]), hp]
    refine xs_congr fun i hi => ?_
    congr 1
    have hv : (vlsK rows h k).getD i [] = (vlsK rows h rows.length).getD i [] := by
      rw [vls_take rows h hk, hf]
      simp [List.getD_eq_getElem?_getD, hi]
    have e3 : (colL (vlsK rows h k) j).getD i 0 = ((vlsK rows h k).getD i []).getD j 0 := co_col _ _ _
    rw [e3, hv, (vls_ok H h (by omega)).2 j hj]
theorem vls_n0 {rows : List Rw} {m N : Nat} (H : RowsOk rows m N) (h : Int) {k : Nat} (hk : k ≤ rows.length) (hf : 0 < (fullK rows k).length) : ((vlsK rows h k).getD 0 []).length = N := by
  have hle : (fullK rows k).length ≤ (fullK rows rows.length).length := by
    have := congrArg List.length (full_take rows hk)
    rw [List.length_take] at this; omega
  have hv : (vlsK rows h k).getD 0 [] = (vlsK rows h rows.length).getD 0 [] := by
    rw [vls_take rows h hk]
    simp [List.getD_eq_getElem?_getD, hf]
  rw [hv]; exact (vls_ok H h (by omega)).1
theorem vls_all {rows : List Rw} {m N : Nat} (H : RowsOk rows m N) (h : Int) {k : Nat} (hk : k ≤ rows.length) : ∀ s ∈ vlsK rows h k, s.length = N := fun s hs => by
  obtain ⟨i, hi, rfl⟩ := List.mem_map.1 hs
  obtain ⟨h1, h2⟩ := full_mem.1 hi
  obtain ⟨h3, h4⟩ := H.row i (by omega) h2
  exact at_len _ (by have := H.m1; omega) h4
end Go.Proofs.YtmkphnlpbngenaaDoor.S27

namespace Go.Proofs.YtmkphnlpbngenaaDoor.S27
open Go Go.Proofs.YtmkphnlpbngenaaDoor.Vc Go.Proofs
set_option maxRecDepth 100000
set_option linter.unusedVariables false

def sRRfl : List V → Option (Prop × V × List Blk)
  | [.sl false (.sl .str) rs, .int .i64 h] => some (rs.length ≤ 1048576 ∧ (∀ l ∈ rs, l.length ≤ 1048576 ∧ ∀ x ∈ l, x.length ≤ 1048576), .agg [.own .str 0, .int .i64 (rflE rs h)], [.row true .str (rflL rs h)])
  | _ => none
set_option maxHeartbeats 4000000 in
theorem bRRfl (rs : List (List (List UInt8))) (h : Int) (hp0 : rs.length ≤ 1048576) (hp1 : (∀ l ∈ rs, l.length ≤ 1048576 ∧ ∀ x ∈ l, x.length ≤ 1048576)) : bodyP (En CRCmp tys G6 QPrs) Tryd.f27 [.o .str, .k] [.sl false (.sl .str) rs, .int .i64 h] (.agg [.own .str 0, .int .i64 (rflE rs h)]) [.row true .str (rflL rs h)] := by
  refine ⟨⟨by show rs.length ≤ 1048576; first | omega | assumption, by first | assumption | simp⟩, ⟨rfl, rfl, rfl, Nat.le_of_ble_eq_true rfl⟩, fun h0 => ?_, fun h0 => ?_⟩
  · replace h0 : (cmpE rs) ≠ 0 := h0
    refine ⟨⟨rfl, rfl, rfl, Nat.le_of_ble_eq_true rfl⟩, ?_⟩
    have e : rflE rs h = cmpE rs := if_neg h0
    have e4 : rflL rs h = [] := if_neg (by rw [e]; exact h0)
    rw [e4, e]
    exact ⟨rfl, rfl, rfl, rfl⟩
  · replace h0 : ¬ ((cmpE rs) ≠ 0) := h0
    have hc := Classical.not_not.1 h0
    obtain ⟨c1, c2, c3⟩ := cmp0 hc
    refine ⟨rfl, trivial, fun h1 => ?_, fun h1 => ?_⟩
    · replace h1 : ¬ (knw h) := h1
      refine ⟨⟨rfl, rfl, rfl, Nat.le_of_ble_eq_true rfl⟩, ?_⟩
      have e : rflE rs h = 8 := by unfold rflE; rw [if_pos hc, if_neg h1]
      have e4 : rflL rs h = [] := if_neg (by rw [e]; decide)
      rw [e4, e]
      exact ⟨rfl, rfl, rfl, rfl⟩
    · replace h1 : ¬ (¬ (knw h)) := h1
      have hk := Classical.not_not.1 h1
      obtain ⟨k1, k2⟩ := id hk
      refine ⟨3, [(0, .k), (1, .k), (4, .k), (5, .k), (7, .k), (8, .k), (9, .k)], fun n vs H => ∃ (q : Nat), q ≤ rs.length ∧ n = rs.length - q ∧ vs = [.sl false (.sl .str) rs, .int .i64 h, .ptr 0 1 0 0, .ptr 2 1 0 0, .int .i64 ((lastK rs q : Nat) : Int), .int .i64 (((fullK rs q).length : Nat) : Int), .int .i64 (q : Int)] ∧ H = [.cells [.nils, .int .i64 0], .row true (.arr 2 (.int .i64)) (cmpL rs), .cells [.own (.arr 2 (.int .i64)) 1, .int .i64 (cmpE rs)]], ⟨rfl, rs.length, 0, by omega, by omega, rfl, rfl⟩, ?_⟩
      rintro n vs H ⟨q, hc1_0, rfl, rfl, rfl⟩
      refine ⟨fun h2 => ?_, fun h2 => ?_⟩
      · replace h2 : (q : Int) < (rs.length : Int) := h2
        have hql : q < rs.length := by omega
        have hqx := (hp1 _ (getD_mem [] rs q hql)).1
        have hfl := full_len rs q
        refine ⟨⟨by show (0 : Int) ≤ (q : Int); omega, by show (q : Int) < (rs.length : Int); omega⟩, fun h3 => ?_, fun h3 => ?_⟩
        · replace h3 : 0 < (((rs.getD q []).length : Nat) : Int) := h3
          have h3n : 0 < (rs.getD q []).length := by omega
          refine ⟨⟨by show (0 : Int) ≤ (q : Int); omega, by show (q : Int) < (rs.length : Int); omega⟩, ⟨by show (-9223372036854775808 : Int) ≤ ((((fullK rs q).length : Nat) : Int) + 1); omega, by show ((((fullK rs q).length : Nat) : Int) + 1) ≤ (9223372036854775807 : Int); omega⟩, ⟨by show (-9223372036854775808 : Int) ≤ ((q : Int) + 1); omega, by show ((q : Int) + 1) ≤ (9223372036854775807 : Int); omega⟩, ?_⟩
          first
          | exact ⟨rfl, rs.length - (q + 1), by omega, q + 1, by omega, rfl, by rw [last_yes hql h3n, full_yes h3n, List.length_append]; rfl, rfl⟩
          | exact ⟨rfl, rs.length - (q + 1), by omega, q + 1, by omega, rfl, by rw [last_no hql h3n, full_no h3n]; rfl, rfl⟩
        · replace h3 : ¬ (0 < (((rs.getD q []).length : Nat) : Int)) := h3
          have h3n : ¬ 0 < (rs.getD q []).length := by omega
          refine ⟨⟨by show (-9223372036854775808 : Int) ≤ ((q : Int) + 1); omega, by show ((q : Int) + 1) ≤ (9223372036854775807 : Int); omega⟩, ?_⟩
          first
          | exact ⟨rfl, rs.length - (q + 1), by omega, q + 1, by omega, rfl, by rw [last_yes hql h3n, full_yes h3n, List.length_append]; rfl, rfl⟩
          | exact ⟨rfl, rs.length - (q + 1), by omega, q + 1, by omega, rfl, by rw [last_no hql h3n, full_no h3n]; rfl, rfl⟩
      · replace h2 : ¬ ((q : Int) < (rs.length : Int)) := h2
        obtain ⟨m, hm⟩ : ∃ m, lastK rs rs.length = m := ⟨_, rfl⟩
        have hqn : q = rs.length := by omega
        have hq : lastK rs q = m := by rw [hqn, hm]
        have hfq : (fullK rs q).length = (fullK rs rs.length).length := by rw [hqn]
        refine ⟨fun h4 => ?_, fun h4 => ?_⟩
        · replace h4 : ¬ (((lastK rs q : Nat) : Int) = 0) := h4
          refine ⟨fun h5 => ?_, fun h5 => ?_⟩
          · replace h5 : (((fullK rs q).length : Nat) : Int) < ((lastK rs q : Nat) : Int) := h5
            refine ⟨⟨rfl, rfl, rfl, Nat.le_of_ble_eq_true rfl⟩, ?_⟩
            have e : rflE rs h = 17 := by unfold rflE; rw [if_pos hc, if_pos hk, if_pos (.inr (by rw [hm]; omega))]
            have e4 : rflL rs h = [] := if_neg (by rw [e]; decide)
            rw [e4, e]
            exact ⟨rfl, rfl, rfl, rfl⟩
          · replace h5 : ¬ ((((fullK rs q).length : Nat) : Int) < ((lastK rs q : Nat) : Int)) := h5
            refine ⟨fun h6 => ?_, fun h6 => ?_⟩
            · replace h6 : 0 < (((cmpL rs).length : Nat) : Int) := h6
              refine ⟨⟨rfl, rfl, rfl, Nat.le_of_ble_eq_true rfl⟩, ?_⟩
              have hne : ¬ cmpL rs = [] := fun g => by rw [g] at h6; simp at h6
              have e : rflE rs h = 4 := by unfold rflE; rw [if_pos hc, if_pos hk, if_neg (by rw [hm]; omega), if_neg hne]
              have e4 : rflL rs h = [] := if_neg (by rw [e]; decide)
              rw [e4, e]
              exact ⟨rfl, rfl, rfl, rfl⟩
            · replace h6 : ¬ (0 < (((cmpL rs).length : Nat) : Int)) := h6
              have hcl0 : cmpL rs = [] := List.eq_nil_of_length_eq_zero (by omega)
              obtain ⟨N, HR⟩ := rows_ok hc hcl0 (by omega)
              rw [hm] at HR
              have hm1 := HR.m1
              have hm11 := HR.m11
              have hNm := HR.nmax
              have e0 : rflE rs h = 0 := by unfold rflE; rw [if_pos hc, if_pos hk, if_neg (by rw [hm]; omega), if_pos hcl0]
              refine ⟨1, [(0, .k), (1, .k), (4, .k), (7, .k), (10, .o .u8), (11, .o .str), (12, .k)], fun n vs H => ∃ (k : Nat), k ≤ rs.length ∧ (fullK rs k).length ≤ m ∧ n = rs.length - k ∧ vs = [.sl false (.sl .str) rs, .int .i64 h, .ptr 0 1 0 0, .int .i64 ((m : Nat) : Int), .own .u8 1, .own .str 2, .int .i64 (k : Int)] ∧ H = [.cells [.nils, .int .i64 0], .row true .u8 (ptsK rs k), .row true .str (vlsK rs h k)], ⟨rfl, rs.length, 0, by omega, by simp [fullK], by omega, by rw [hq]; rfl, rfl⟩, ?_⟩
              rintro n vs H ⟨k, hc2_0, hc2_1, rfl, rfl, rfl⟩
              refine ⟨fun h7 => ?_, fun h7 => ?_⟩
              · replace h7 : (k : Int) < (rs.length : Int) := h7
                have hkl : k < rs.length := by omega
                have hmm := getD_mem [] rs k hkl
                have hpl := pts_len rs k
                have hvl := vls_len rs h k
                refine ⟨fun h8 => ?_, fun h8 => ?_⟩
                · replace h8 : (((ptsK rs k).length : Nat) : Int) < ((m : Nat) : Int) := h8
                  refine ⟨⟨by show (0 : Int) ≤ (k : Int); omega, by show (k : Int) < (rs.length : Int); omega⟩, fun h9 => ?_, fun h9 => ?_⟩
                  · replace h9 : 0 < (((rs.getD k []).length : Nat) : Int) := h9
                    have h3n : 0 < (rs.getD k []).length := by omega
                    have hr := c2 _ hmm h3n
                    obtain ⟨r1, r2, r3, r4⟩ := right_ok hr
                    refine ⟨⟨by show (-9223372036854775808 : Int) ≤ ((k : Int) + 1); omega, by show ((k : Int) + 1) ≤ (9223372036854775807 : Int); omega⟩, ⟨rfl, rfl⟩, by show (ptsK rs k).length + ([UInt8.ofNat (((k : Int) + 1) % 256).toNat] : List UInt8).length ≤ 1000000000; simp only [List.length_cons, List.length_nil]; omega, ⟨by show (0 : Int) ≤ (k : Int); omega, by show (k : Int) < (rs.length : Int); omega⟩, ⟨by show (-9223372036854775808 : Int) ≤ (h + 1); omega, by show (h + 1) ≤ (9223372036854775807 : Int); omega⟩, ⟨by show 1 ≤ (rs.getD k []).length; omega, by show (rs.getD k []).length ≤ 1000000; omega, r3, Nat.le_trans r4 (by omega)⟩, ⟨rfl, rfl⟩, by show (vlsK rs h k).length + ([atL (rs.getD k []) (UInt8.ofNat ((h + 1) % 256).toNat)] : List (List UInt8)).length ≤ 1000000000; simp only [List.length_cons, List.length_nil]; omega, ⟨by show (-9223372036854775808 : Int) ≤ ((k : Int) + 1); omega, by show ((k : Int) + 1) ≤ (9223372036854775807 : Int); omega⟩, ?_⟩
                    first
                    | exact ⟨rfl, rs.length - (k + 1), by omega, k + 1, by omega, by rw [full_yes h3n, List.length_append, List.length_cons, List.length_nil]; omega, rfl, rfl, by rw [pts_yes h3n, vls_yes h3n]; rfl⟩
                    | exact ⟨rfl, rs.length - (k + 1), by omega, k + 1, by omega, by rw [full_no h3n]; exact hc2_1, rfl, rfl, by rw [pts_no h3n, vls_no h3n]; rfl⟩
                  · replace h9 : ¬ (0 < (((rs.getD k []).length : Nat) : Int)) := h9
                    have h3n : ¬ 0 < (rs.getD k []).length := by omega
                    refine ⟨⟨by show (-9223372036854775808 : Int) ≤ ((k : Int) + 1); omega, by show ((k : Int) + 1) ≤ (9223372036854775807 : Int); omega⟩, ?_⟩
                    first
                    | exact ⟨rfl, rs.length - (k + 1), by omega, k + 1, by omega, by rw [full_yes h3n, List.length_append, List.length_cons, List.length_nil]; omega, rfl, rfl, by rw [pts_yes h3n, vls_yes h3n]; rfl⟩
                    | exact ⟨rfl, rs.length - (k + 1), by omega, k + 1, by omega, by rw [full_no h3n]; exact hc2_1, rfl, rfl, by rw [pts_no h3n, vls_no h3n]; rfl⟩
                · replace h8 : ¬ ((((ptsK rs k).length : Nat) : Int) < ((m : Nat) : Int)) := h8
                  have hpl := pts_len rs k
                  have hvl := vls_len rs h k
                  have hfm : (fullK rs k).length = m := by (omega)
                  have hvN := vls_n0 HR h hc2_0 (by omega)
                  have hva := vls_all HR h hc2_0
                  refine ⟨⟨rfl, by show (0 : Int) ≤ ((m : Nat) : Int); omega, by show ((m : Nat) : Int) ≤ (1000000000 : Int); omega⟩, 4, [(4, .k), (7, .k), (10, .k), (11, .k), (13, .k), (14, .k)], fun n vs H => ∃ (j : Nat), j ≤ N ∧ n = N - j ∧ vs = [.ptr 0 1 0 0, .int .i64 ((m : Nat) : Int), .own .u8 1, .own .str 2, .own .str 3, .int .i64 (j : Int)] ∧ H = [.cells [.nils, .int .i64 0], .row true .u8 (ptsK rs k), .row true .str (vlsK rs h k), .row true .str (outB (ptsK rs k) (vlsK rs h k) m j)], ⟨rfl, N, 0, by omega, by omega, rfl, by rw [outB_zero]; rfl⟩, ?_⟩
                  rintro n vs H ⟨j, hc3_0, rfl, rfl, rfl⟩
                  have hol := outB_len (ptsK rs k) (vlsK rs h k) m j
                  refine ⟨⟨by show (0 : Int) ≤ 0; omega, by show 0 < ((vlsK rs h k).length : Int); omega⟩, fun h10 => ?_, fun h10 => ?_⟩
                  · replace h10 : (j : Int) < ((((vlsK rs h k).getD 0 []).length : Nat) : Int) := h10
                    refine ⟨4, [(4, .k), (7, .k), (10, .k), (11, .k), (13, .k), (14, .k), (15, .o .u8), (16, .k)], fun n vs H => ∃ (i : Nat), i ≤ m ∧ n = m - i ∧ vs = [.ptr 0 1 0 0, .int .i64 ((m : Nat) : Int), .own .u8 1, .own .str 2, .own .str 3, .int .i64 (j : Int), .own .u8 4, .int .i64 (i : Int)] ∧ H = [.cells [.nils, .int .i64 0], .row true .u8 (ptsK rs k), .row true .str (vlsK rs h k), .row true .str (outB (ptsK rs k) (vlsK rs h k) m j), .row true .u8 (colL ((vlsK rs h k).take i) j)], ⟨rfl, m, 0, by omega, by omega, rfl, rfl⟩, ?_⟩
                    rintro n vs H ⟨i, hc4_0, rfl, rfl, rfl⟩
                    have hcl : (colL ((vlsK rs h k).take i) j).length = i := mapT_len _ _ i (by omega)
                    refine ⟨fun h11 => ?_, fun h11 => ?_⟩
                    · replace h11 : (i : Int) < ((m : Nat) : Int) := h11
                      have hvi := hva _ (getD_mem [] (vlsK rs h k) i (by omega))
                      refine ⟨⟨by show (0 : Int) ≤ (i : Int); omega, by show (i : Int) < ((vlsK rs h k).length : Int); omega⟩, ⟨by show (0 : Int) ≤ (j : Int); omega, by show (j : Int) < (((vlsK rs h k).getD i []).length : Int); omega⟩, ⟨rfl, rfl⟩, by show (colL ((vlsK rs h k).take i) j).length + ([((vlsK rs h k).getD i []).getD j 0] : List UInt8).length ≤ 1000000000; simp only [List.length_cons, List.length_nil]; omega, ⟨by show (-9223372036854775808 : Int) ≤ ((i : Int) + 1); omega, by show ((i : Int) + 1) ≤ (9223372036854775807 : Int); omega⟩, ?_⟩
                      exact ⟨rfl, m - (i + 1), by omega, i + 1, by omega, rfl, rfl, by rw [col_snoc (vlsK rs h k) j i (by omega)]; rfl⟩
                    · replace h11 : ¬ ((i : Int) < ((m : Nat) : Int)) := h11
                      have hci : (vlsK rs h k).take i = vlsK rs h k := List.take_of_length_le (by omega)
                      have hll := line_len (ptsK rs k) (colL ((vlsK rs h k).take i) j)
                      refine ⟨⟨by show (ptsK rs k).length ≤ 10000; first | omega | assumption, by show (ptsK rs k).length ≤ (colL ((vlsK rs h k).take i) j).length; first | omega | assumption | (simp only [List.length_cons, List.length_nil, List.length_append, List.length_take, List.length_drop, List.length_set, List.length_replicate]; omega)⟩, ⟨rfl, rfl⟩, ⟨by show (0 : Int) < ((m : Nat) : Int); omega, by show (lineL (ptsK rs k) (colL ((vlsK rs h k).take i) j)).length + m ≤ 1000000000; omega⟩, 6, [(4, .k), (7, .k), (10, .k), (11, .k), (13, .k), (14, .k), (17, .k), (18, .k)], fun n vs H => ∃ (a : Nat), a ≤ m ∧ n = m - a ∧ vs = [.ptr 0 1 0 0, .int .i64 ((m : Nat) : Int), .own .u8 1, .own .str 2, .own .str 3, .int .i64 (j : Int), .own .u8 5, .int .i64 (a : Int)] ∧ H = [.cells [.nils, .int .i64 0], .row true .u8 (ptsK rs k), .row true .str (vlsK rs h k), .row true .str (outC (ptsK rs k) (vlsK rs h k) m j a), .row true .u8 (colL ((vlsK rs h k).take i) j), .row true .u8 ((lineL (ptsK rs k) (colL ((vlsK rs h k).take i) j)) ++ List.replicate m 0)], ⟨rfl, m, 0, by omega, by omega, rfl, by rw [outC_zero]; rfl⟩, ?_⟩
                      rintro n vs H ⟨a, hc5_0, rfl, rfl, rfl⟩
                      have hoc := outC_len (ptsK rs k) (vlsK rs h k) m j a
                      refine ⟨fun h12 => ?_, fun h12 => ?_⟩
                      · replace h12 : (a : Int) < ((m : Nat) : Int) := h12
                        have hgl := outC_gl (ps := ptsK rs k) (vs := vlsK rs h k) (k := j) (a := a) (m := m) (by omega)
                        refine ⟨by kernel_rfl, ⟨by show (0 : Int) ≤ (a : Int); omega, by show (a : Int) < ((outC (ptsK rs k) (vlsK rs h k) m j a).length : Int); omega⟩, ⟨by omega, by show (a : Int) < (((lineL (ptsK rs k) (colL ((vlsK rs h k).take i) j)) ++ List.replicate m 0).length : Int); rw [List.length_append, List.length_replicate]; omega⟩, by show ((outC (ptsK rs k) (vlsK rs h k) m j a).getD a []).length + ([(((lineL (ptsK rs k) (colL ((vlsK rs h k).take i) j)) ++ List.replicate m 0).getD a 0)] : List UInt8).length ≤ 1099511627776; rw [hgl]; simp only [List.length_cons, List.length_nil]; omega, ⟨by show (0 : Int) ≤ (a : Int); omega, by show (a : Int) < ((outC (ptsK rs k) (vlsK rs h k) m j a).length : Int); omega⟩, ⟨rfl, rfl⟩, ⟨by show (-9223372036854775808 : Int) ≤ ((a : Int) + 1); omega, by show ((a : Int) + 1) ≤ (9223372036854775807 : Int); omega⟩, ?_⟩
                        exact ⟨rfl, m - (a + 1), by omega, a + 1, by omega, rfl, rfl, by rw [← outC_set (x := (lineL (ptsK rs k) (colL ((vlsK rs h k).take i) j) ++ List.replicate m 0).getD a 0) (by omega) (by rw [co_app, hci])]; rfl⟩
                      · replace h12 : ¬ ((a : Int) < ((m : Nat) : Int)) := h12
                        refine ⟨⟨by show (-9223372036854775808 : Int) ≤ ((j : Int) + 1); omega, by show ((j : Int) + 1) ≤ (9223372036854775807 : Int); omega⟩, ?_⟩
                        exact ⟨rfl, N - (j + 1), by omega, j + 1, by omega, rfl, rfl, by rw [← outC_all, show outC (ptsK rs k) (vlsK rs h k) m j m = outC (ptsK rs k) (vlsK rs h k) m j a by rw [show a = m by omega]]; rfl⟩
                  · replace h10 : ¬ ((j : Int) < ((((vlsK rs h k).getD 0 []).length : Nat) : Int)) := h10
                    refine ⟨⟨rfl, rfl, rfl, Nat.le_of_ble_eq_true rfl⟩, ?_⟩
                    have e4 : rflL rs h = outB (ptsK rs k) (vlsK rs h k) m j := by rw [rflL, if_pos e0, ← outB_rfl HR h hm hc2_0 hfm, show j = N by omega]
                    rw [e4, e0]
                    exact ⟨rfl, rfl, rfl, rfl⟩
              · replace h7 : ¬ ((k : Int) < (rs.length : Int)) := h7
                have hpl := pts_len rs k
                have hvl := vls_len rs h k
                have hfm : (fullK rs k).length = m := by (rw [show k = rs.length by omega] at hc2_1 ⊢; omega)
                have hvN := vls_n0 HR h hc2_0 (by omega)
                have hva := vls_all HR h hc2_0
                refine ⟨⟨rfl, by show (0 : Int) ≤ ((m : Nat) : Int); omega, by show ((m : Nat) : Int) ≤ (1000000000 : Int); omega⟩, 4, [(4, .k), (7, .k), (10, .k), (11, .k), (13, .k), (14, .k)], fun n vs H => ∃ (j : Nat), j ≤ N ∧ n = N - j ∧ vs = [.ptr 0 1 0 0, .int .i64 ((m : Nat) : Int), .own .u8 1, .own .str 2, .own .str 3, .int .i64 (j : Int)] ∧ H = [.cells [.nils, .int .i64 0], .row true .u8 (ptsK rs k), .row true .str (vlsK rs h k), .row true .str (outB (ptsK rs k) (vlsK rs h k) m j)], ⟨rfl, N, 0, by omega, by omega, rfl, by rw [outB_zero]; rfl⟩, ?_⟩
                rintro n vs H ⟨j, hc6_0, rfl, rfl, rfl⟩
                have hol := outB_len (ptsK rs k) (vlsK rs h k) m j
                refine ⟨⟨by show (0 : Int) ≤ 0; omega, by show 0 < ((vlsK rs h k).length : Int); omega⟩, fun h13 => ?_, fun h13 => ?_⟩
                · replace h13 : (j : Int) < ((((vlsK rs h k).getD 0 []).length : Nat) : Int) := h13
                  refine ⟨4, [(4, .k), (7, .k), (10, .k), (11, .k), (13, .k), (14, .k), (15, .o .u8), (16, .k)], fun n vs H => ∃ (i : Nat), i ≤ m ∧ n = m - i ∧ vs = [.ptr 0 1 0 0, .int .i64 ((m : Nat) : Int), .own .u8 1, .own .str 2, .own .str 3, .int .i64 (j : Int), .own .u8 4, .int .i64 (i : Int)] ∧ H = [.cells [.nils, .int .i64 0], .row true .u8 (ptsK rs k), .row true .str (vlsK rs h k), .row true .str (outB (ptsK rs k) (vlsK rs h k) m j), .row true .u8 (colL ((vlsK rs h k).take i) j)], ⟨rfl, m, 0, by omega, by omega, rfl, rfl⟩, ?_⟩
                  rintro n vs H ⟨i, hc7_0, rfl, rfl, rfl⟩
                  have hcl : (colL ((vlsK rs h k).take i) j).length = i := mapT_len _ _ i (by omega)
                  refine ⟨fun h14 => ?_, fun h14 => ?_⟩
                  · replace h14 : (i : Int) < ((m : Nat) : Int) := h14
                    have hvi := hva _ (getD_mem [] (vlsK rs h k) i (by omega))
                    refine ⟨⟨by show (0 : Int) ≤ (i : Int); omega, by show (i : Int) < ((vlsK rs h k).length : Int); omega⟩, ⟨by show (0 : Int) ≤ (j : Int); omega, by show (j : Int) < (((vlsK rs h k).getD i []).length : Int); omega⟩, ⟨rfl, rfl⟩, by show (colL ((vlsK rs h k).take i) j).length + ([((vlsK rs h k).getD i []).getD j 0] : List UInt8).length ≤ 1000000000; simp only [List.length_cons, List.length_nil]; omega, ⟨by show (-9223372036854775808 : Int) ≤ ((i : Int) + 1); omega, by show ((i : Int) + 1) ≤ (9223372036854775807 : Int); omega⟩, ?_⟩
                    exact ⟨rfl, m - (i + 1), by omega, i + 1, by omega, rfl, rfl, by rw [col_snoc (vlsK rs h k) j i (by omega)]; rfl⟩
                  · replace h14 : ¬ ((i : Int) < ((m : Nat) : Int)) := h14
                    have hci : (vlsK rs h k).take i = vlsK rs h k := List.take_of_length_le (by omega)
                    have hll := line_len (ptsK rs k) (colL ((vlsK rs h k).take i) j)
                    refine ⟨⟨by show (ptsK rs k).length ≤ 10000; first | omega | assumption, by show (ptsK rs k).length ≤ (colL ((vlsK rs h k).take i) j).length; first | omega | assumption | (simp only [List.length_cons, List.length_nil, List.length_append, List.length_take, List.length_drop, List.length_set, List.length_replicate]; omega)⟩, ⟨rfl, rfl⟩, ⟨by show (0 : Int) < ((m : Nat) : Int); omega, by show (lineL (ptsK rs k) (colL ((vlsK rs h k).take i) j)).length + m ≤ 1000000000; omega⟩, 6, [(4, .k), (7, .k), (10, .k), (11, .k), (13, .k), (14, .k), (17, .k), (18, .k)], fun n vs H => ∃ (a : Nat), a ≤ m ∧ n = m - a ∧ vs = [.ptr 0 1 0 0, .int .i64 ((m : Nat) : Int), .own .u8 1, .own .str 2, .own .str 3, .int .i64 (j : Int), .own .u8 5, .int .i64 (a : Int)] ∧ H = [.cells [.nils, .int .i64 0], .row true .u8 (ptsK rs k), .row true .str (vlsK rs h k), .row true .str (outC (ptsK rs k) (vlsK rs h k) m j a), .row true .u8 (colL ((vlsK rs h k).take i) j), .row true .u8 ((lineL (ptsK rs k) (colL ((vlsK rs h k).take i) j)) ++ List.replicate m 0)], ⟨rfl, m, 0, by omega, by omega, rfl, by rw [outC_zero]; rfl⟩, ?_⟩
                    rintro n vs H ⟨a, hc8_0, rfl, rfl, rfl⟩
                    have hoc := outC_len (ptsK rs k) (vlsK rs h k) m j a
                    refine ⟨fun h15 => ?_, fun h15 => ?_⟩
                    · replace h15 : (a : Int) < ((m : Nat) : Int) := h15
                      have hgl := outC_gl (ps := ptsK rs k) (vs := vlsK rs h k) (k := j) (a := a) (m := m) (by omega)
                      refine ⟨by kernel_rfl, ⟨by show (0 : Int) ≤ (a : Int); omega, by show (a : Int) < ((outC (ptsK rs k) (vlsK rs h k) m j a).length : Int); omega⟩, ⟨by omega, by show (a : Int) < (((lineL (ptsK rs k) (colL ((vlsK rs h k).take i) j)) ++ List.replicate m 0).length : Int); rw [List.length_append, List.length_replicate]; omega⟩, by show ((outC (ptsK rs k) (vlsK rs h k) m j a).getD a []).length + ([(((lineL (ptsK rs k) (colL ((vlsK rs h k).take i) j)) ++ List.replicate m 0).getD a 0)] : List UInt8).length ≤ 1099511627776; rw [hgl]; simp only [List.length_cons, List.length_nil]; omega, ⟨by show (0 : Int) ≤ (a : Int); omega, by show (a : Int) < ((outC (ptsK rs k) (vlsK rs h k) m j a).length : Int); omega⟩, ⟨rfl, rfl⟩, ⟨by show (-9223372036854775808 : Int) ≤ ((a : Int) + 1); omega, by show ((a : Int) + 1) ≤ (9223372036854775807 : Int); omega⟩, ?_⟩
                      exact ⟨rfl, m - (a + 1), by omega, a + 1, by omega, rfl, rfl, by rw [← outC_set (x := (lineL (ptsK rs k) (colL ((vlsK rs h k).take i) j) ++ List.replicate m 0).getD a 0) (by omega) (by rw [co_app, hci])]; rfl⟩
                    · replace h15 : ¬ ((a : Int) < ((m : Nat) : Int)) := h15
                      refine ⟨⟨by show (-9223372036854775808 : Int) ≤ ((j : Int) + 1); omega, by show ((j : Int) + 1) ≤ (9223372036854775807 : Int); omega⟩, ?_⟩
                      exact ⟨rfl, N - (j + 1), by omega, j + 1, by omega, rfl, rfl, by rw [← outC_all, show outC (ptsK rs k) (vlsK rs h k) m j m = outC (ptsK rs k) (vlsK rs h k) m j a by rw [show a = m by omega]]; rfl⟩
                · replace h13 : ¬ ((j : Int) < ((((vlsK rs h k).getD 0 []).length : Nat) : Int)) := h13
                  refine ⟨⟨rfl, rfl, rfl, Nat.le_of_ble_eq_true rfl⟩, ?_⟩
                  have e4 : rflL rs h = outB (ptsK rs k) (vlsK rs h k) m j := by rw [rflL, if_pos e0, ← outB_rfl HR h hm hc2_0 hfm, show j = N by omega]
                  rw [e4, e0]
                  exact ⟨rfl, rfl, rfl, rfl⟩
        · replace h4 : ((lastK rs q : Nat) : Int) = 0 := h4
          refine ⟨⟨rfl, rfl, rfl, Nat.le_of_ble_eq_true rfl⟩, ?_⟩
          have e : rflE rs h = 17 := by unfold rflE; rw [if_pos hc, if_pos hk, if_pos (.inl (by rw [hm]; omega))]
          have e4 : rflL rs h = [] := if_neg (by rw [e]; decide)
          rw [e4, e]
          exact ⟨rfl, rfl, rfl, rfl⟩
def CRRfl : List (Nat × Con) := (27, pureC [.v (.sl (.sl .str)), .v (.int .i64)] sRRfl) :: CRCmp
theorem kRRfl : Known Tryd.prog (En CRRfl tys G6 QPrs) := kRCmp.add Tryd.func27 Tryd.call27 [.o .str, .k] fun ds p v bs h hp => by
  unfold sRRfl at h
  split at h <;> simp only [Option.some.injEq, Prod.mk.injEq, reduceCtorEq] at h
  obtain ⟨rfl, rfl, rfl⟩ := h
  exact bRRfl _ _ hp.1 hp.2
end Go.Proofs.YtmkphnlpbngenaaDoor.S27

namespace Go.Proofs.YtmkphnlpbngenaaDoor.S27
open Go Go.Proofs.YtmkphnlpbngenaaDoor.Vc

/-! ### how large the parts of a datum are -/
theorem wt_mem {t : Ty} {xs : List t.D} {x : t.D} (h : x ∈ xs) : wt t x + 1 ≤ wt (.sl t) xs := by
  have e : wt (.sl t) xs = (xs.map (wt t)).sum + 1 := rfl
  rw [e]
  clear e
  induction xs with
  | nil => cases h
  | cons y ys ih =>
    rw [List.map_cons, List.sum_cons]
    rcases List.mem_cons.1 h with rfl | h
    · omega
    · have := ih h; omega
theorem wt_len {t : Ty} (h1 : ∀ x, 1 ≤ wt t x) (xs : List t.D) : xs.length + 1 ≤ wt (.sl t) xs := by
  have e : wt (.sl t) xs = (xs.map (wt t)).sum + 1 := rfl
  rw [e]
  clear e
  induction xs with
  | nil => simp
  | cons x xs ih => have := h1 x; rw [List.map_cons, List.sum_cons, List.length_cons]; omega
theorem wt_s (s : List UInt8) : wt .str s = s.length + 1 := rfl
theorem wt_sl1 {t : Ty} (xs : List t.D) : 1 ≤ wt (.sl t) xs := by
  have e : wt (.sl t) xs = (xs.map (wt t)).sum + 1 := rfl
  omega
theorem mx1 (r : Rw) : r.length ≤ wt (.sl .str) r ∧ ∀ x ∈ r, x.length ≤ wt (.sl .str) r := by
  refine ⟨?_, fun x hx => ?_⟩
  · have := wt_len (t := .str) (fun x => by rw [wt_s]; omega) r; omega
  · have := wt_mem (t := .str) hx; rw [wt_s] at this; omega
theorem mx2 (cf : List Rw) : cf.length ≤ wt (.sl (.sl .str)) cf ∧ ∀ l ∈ cf, l.length ≤ wt (.sl (.sl .str)) cf ∧ ∀ x ∈ l, x.length ≤ wt (.sl (.sl .str)) cf := by
  refine ⟨?_, fun l hl => ?_⟩
  · have := wt_len (t := .sl .str) (fun x => wt_sl1 x) cf; omega
  · have h := wt_mem (t := .sl .str) hl
    obtain ⟨h1, h2⟩ := mx1 l
    exact ⟨by omega, fun x hx => by have := h2 x hx; omega⟩
theorem mxP (l : List (List UInt8)) : l.length ≤ wt (.sl (.sl .u8)) l ∧ ∀ x ∈ l, x.length ≤ wt (.sl (.sl .u8)) l := by
  refine ⟨?_, fun x hx => ?_⟩
  · have := wt_len (t := .sl .u8) (fun x => wt_sl1 x) l; omega
  · have := wt_mem (t := .sl .u8) hx; rw [wt_bytes] at this; omega
abbrev dealT : Ty := .cons (.int .i64) (.cons (.sl (.sl .str)) .nil)
theorem wt_deal (d : Dl) : wt dealT d = 1 + (wt (.sl (.sl .str)) d.2.1 + 0) := rfl
theorem mx3 (ds : List Dl) : ds.length ≤ wt (.sl dealT) ds ∧ ∀ d ∈ ds, d.2.1.length ≤ wt (.sl dealT) ds ∧ ∀ l ∈ d.2.1, l.length ≤ wt (.sl dealT) ds ∧ ∀ x ∈ l, x.length ≤ wt (.sl dealT) ds := by
  refine ⟨?_, fun d hd => ?_⟩
  · have := wt_len (t := dealT) (fun x => by rw [wt_deal]; omega) ds; omega
  · have h := wt_mem (t := dealT) hd
    rw [wt_deal] at h
    obtain ⟨h1, h2⟩ := mx2 d.2.1
    exact ⟨by omega, fun l hl => by obtain ⟨a, b⟩ := h2 l hl; exact ⟨by omega, fun x hx => by have := b x hx; omega⟩⟩
section
variable {N : Nat}
theorem mx2' {cf : List Rw} (h : wt (.sl (.sl .str)) cf ≤ N) : cf.length ≤ N ∧ ∀ l ∈ cf, l.length ≤ N ∧ ∀ x ∈ l, x.length ≤ N := by
  obtain ⟨a, b⟩ := mx2 cf
  exact ⟨by omega, fun l hl => ⟨by have := (b l hl).1; omega, fun x hx => by have := (b l hl).2 x hx; omega⟩⟩
theorem mxP' {l : List (List UInt8)} (h : wt (.sl (.sl .u8)) l ≤ N) : l.length ≤ N ∧ ∀ x ∈ l, x.length ≤ N := by
  obtain ⟨a, b⟩ := mxP l
  exact ⟨by omega, fun x hx => by have := b x hx; omega⟩
theorem mx3' {ds : List Dl} (h : wt (.sl dealT) ds ≤ N) : ds.length ≤ N ∧ ∀ d ∈ ds, d.2.1.length ≤ N ∧ ∀ l ∈ d.2.1, l.length ≤ N ∧ ∀ x ∈ l, x.length ≤ N := by
  obtain ⟨a, b⟩ := mx3 ds
  exact ⟨by omega, fun d hd => ⟨by have := (b d hd).1; omega, fun l hl => ⟨by have := ((b d hd).2 l hl).1; omega, fun x hx => by have := ((b d hd).2 l hl).2 x hx; omega⟩⟩⟩
end
end Go.Proofs.YtmkphnlpbngenaaDoor.S27

namespace Go.Proofs.YtmkphnlpbngenaaDoor.Cd
open Go Go.Proofs.YtmkphnlpbngenaaDoor.Vc Go.Proofs Go.Proofs.YtmkphnlpbngenaaDoor.S27 Go.ChangeShapes Go.WideShapes Go.ChangeAt Go.RowKit
set_option maxRecDepth 100000
set_option linter.unusedVariables false

theorem bulkAll {H : Type} : ∀ l : List (DataW H), Rows.uptoBulkAll l = (l.map Rows.uptoBulk).sum
  | [] => rfl
  | d :: l => by rw [Rows.uptoBulkAll, bulkAll l]; rfl
theorem bulk {H : Type} : Bulk (H := H) Rows.uptoBulk where
  one d := by cases d with
    | lit l => cases l <;> simp [Rows.uptoBulk]
    | _ => simp [Rows.uptoBulk]
  str b := by simp [Rows.uptoBulk]
  sl es sp := by rw [Rows.uptoBulk, bulkAll, bulkAll]; omega
  agg ps := by rw [Rows.uptoBulk, bulkAll]; omega
theorem wt_cons (t ts : Ty) (x : (Ty.cons t ts).D) : wt (.cons t ts) x = wt t x.1 + wt ts x.2 := rfl
theorem wt_int (k : IntKind) (x : Int) : wt (.int k) x = 1 := rfl
theorem wt_nil (x : Unit) : wt .nil x = 0 := rfl
theorem laidOut : laidOutB Tryd.prog = true := by kernel_rfl
theorem own : ownKnob Tryd.prog.godebug = none := by kernel_rfl

section
variable {H : Type} {enc : TypeId × Value → H} {P : Program}
theorem post_same {f : Func} {s : ChangeSpec} {apart fresh handsOn again : Bool} {W W' : World} {args : Array Value} {v : Value} {ds gs : List (DataW H)} {before pa pv : List MemPlace}
    (hW : DataW.Whole enc P f.params.toList s.vars apart W args.toList ds gs before)
    (hres : ∀ (b : Nat) (sp : Nat → Bool) (hd : Bool), DataW.TrodAll enc P W' b sp hd f.resultTypes.toList (v.resultList f.resultTypes.size) (s.fn H (ds ++ gs)).results [])
    (hargs : ∀ sp : Nat → Bool, (∀ p ∈ before, sp p.block = true) → DataW.TrodAll enc P W' 0 sp true f.params.toList args.toList (s.fn H (ds ++ gs)).args pa)
    (hvars : ∀ sp : Nat → Bool, (∀ p ∈ before, sp p.block = true) → DataW.TrodVars enc P W' sp s.vars (s.fn H (ds ++ gs)).vars pv)
    (hps : before = pa ++ pv) (hb : Below W.heap.size W W')
    (hok : ∀ (j : Nat) (t : TypeId) (r : Value), f.resultTypes[j]? = some t → (v.resultList f.resultTypes.size)[j]? = some r → Value.okWide P W' .any 0 t r) :
    s.post enc P f apart fresh handsOn again W args v W' := by
  have hlt : ∀ p ∈ before, p.block < W.heap.size := fun p hp => by simpa using hW.lt p hp
  have hold : ∀ p ∈ before, (fun b => decide (b < W.heap.size)) p.block = true := fun p hp => by simpa using hW.lt p hp
  refine ⟨ds, gs, before, [], pa, pv, hW, hres _ _ _, hargs _ hold, hvars _ hold, World.keptBut_mono (fun p hp => ⟨hp, ?_⟩) (hb.frame (· ∈ before)), fun _ => ?_⟩
  · rw [hps, List.mem_append] at hp
    exact Or.inr hp
  · obtain ⟨_, _, _, _, _, hz, hn⟩ := hW
    refine ⟨hok, _, _, ([] ++ pa) ++ pv, ⟨[] ++ pa, pv, trodAll_append (hargs _ (fun _ _ => rfl)) (hres _ _ _), hvars _ (fun _ _ => rfl), rfl, ?_, ?_⟩, ?_⟩
    · intro b off hp
      have hp' : MemPlace.cell b off ∈ before := by rw [hps]; simpa using hp
      rw [hb.frozen (hlt _ hp')]
      exact hz b off hp'
    · intro ha
      have := hn ha
      rw [hps] at this
      simpa using this
    · intro p hp _
      rw [hps]
      simpa using hp
end
end Go.Proofs.YtmkphnlpbngenaaDoor.Cd

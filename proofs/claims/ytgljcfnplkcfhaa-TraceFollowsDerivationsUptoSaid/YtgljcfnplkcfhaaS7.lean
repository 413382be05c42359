/- Texts of this claim: S38.Qt, S38.Ql, S38.L5. -/
import Derived.Test.YtgljcfnplkcfhaaS3
import Derived.Test.YtgljcfnplkcfhaaS4
set_option linter.unusedVariables false
set_option linter.unusedSimpArgs false
namespace Go.Proofs.Ytgljcfnplkcfhaa.S38
open Go

theorem inO_len (l : List (Int × (Int × (Int × (List Int × (Int × (Int × (Int × (Int × (Int × (Int × Unit))))))))))) (ids : List Int) : (inO l ids).length ≤ l.length := by unfold inO; rw [List.length_map]; exact List.length_filter_le _ _
theorem abvL_len (l : List (Int × (Int × (Int × (List Int × (Int × (Int × (Int × (Int × (Int × (Int × Unit))))))))))) (i : Int) : (abvL l i).length ≤ l.length := by
  unfold abvL; split
  · exact inO_len _ _
  · exact Nat.zero_le _
theorem blwL_len (l : List (Int × (Int × (Int × (List Int × (Int × (Int × (Int × (Int × (Int × (Int × Unit))))))))))) (i : Int) : (blwL l i).length ≤ l.length := by
  unfold blwL; split
  · exact inO_len _ _
  · exact Nat.zero_le _
theorem inO_mem {l : List (Int × (Int × (Int × (List Int × (Int × (Int × (Int × (Int × (Int × (Int × Unit))))))))))} {ids : List Int} {x : Int} : x ∈ inO l ids ↔ x ∈ ids ∧ ∃ k, k < l.length ∧ (l.getD k d0).1 = x := by
  unfold inO
  rw [List.mem_map]
  constructor
  · rintro ⟨a, ha, rfl⟩
    obtain ⟨h1, h2⟩ := List.mem_filter.1 ha
    obtain ⟨k, hk, e⟩ := List.mem_iff_getElem.1 h1
    exact ⟨of_decide_eq_true h2, k, hk, by rw [List.getD_eq_getElem?_getD, List.getElem?_eq_getElem hk]; exact congrArg (·.1) e⟩
  · rintro ⟨h1, k, hk, e⟩
    exact ⟨_, List.mem_filter.2 ⟨getD_mem d0 l k hk, decide_eq_true (by rw [e]; exact h1)⟩, e⟩
theorem clos_ok {l : List (Int × (Int × (Int × (List Int × (Int × (Int × (Int × (Int × (Int × (Int × Unit))))))))))} (hc : chkL l = 0) {k : Nat} (hk : k < l.length) : closE l (l.getD k d0).1 = 0 := by
  unfold closE
  rw [if_neg (fun g => g hc), if_neg (by rw [find_self hc hk]; omega)]
theorem abv_up {l : List (Int × (Int × (Int × (List Int × (Int × (Int × (Int × (Int × (Int × (Int × Unit))))))))))} (hc : chkL l = 0) {k i : Nat} (hk : k < l.length) (hi : i < l.length) : (l.getD i d0).1 ∈ abvL l (l.getD k d0).1 ↔ Up l k i := by
  unfold abvL
  rw [find_self hc hk, if_pos ⟨hc, by omega⟩, Int.toNat_natCast, inO_mem, abv_at hc hk hi]
  exact ⟨fun h => h.1, fun h => ⟨h, i, hi, rfl⟩⟩
theorem blw_up {l : List (Int × (Int × (Int × (List Int × (Int × (Int × (Int × (Int × (Int × (Int × Unit))))))))))} (hc : chkL l = 0) {k i : Nat} (hk : k < l.length) (hi : i < l.length) : (l.getD i d0).1 ∈ blwL l (l.getD k d0).1 ↔ Up l i k := by
  unfold blwL
  rw [find_self hc hk, if_pos ⟨hc, by omega⟩, Int.toNat_natCast, inO_mem, blw_at hc hk hi]
  exact ⟨fun h => h.1, fun h => ⟨h, i, hi, rfl⟩⟩
theorem abv_mem_id {l : List (Int × (Int × (Int × (List Int × (Int × (Int × (Int × (Int × (Int × (Int × Unit))))))))))} (hc : chkL l = 0) {k : Nat} (hk : k < l.length) {x : Int} (h : x ∈ abvL l (l.getD k d0).1) : ∃ i, i < l.length ∧ (l.getD i d0).1 = x ∧ Up l k i := by
  have h0 := h
  unfold abvL at h
  rw [find_self hc hk, if_pos ⟨hc, by omega⟩] at h
  obtain ⟨_, i, hi, rfl⟩ := inO_mem.1 h
  exact ⟨i, hi, rfl, (abv_up hc hk hi).1 h0⟩
theorem of_step {l : List (Int × (Int × (Int × (List Int × (Int × (Int × (Int × (Int × (Int × (Int × Unit))))))))))} (hc : chkL l = 0) {j k : Nat} (hk : k < l.length) (hj : j < l.length) (h : (l.getD j d0).1 ∈ (l.getD k d0).2.2.2.1) : j < k ∧ (l.getD k d0).2.2.1 = (l.getD j d0).2.2.1 ∧ (l.getD j d0).2.2.2.2.2.2.1 ≤ (l.getD k d0).2.2.2.2.2.2.1 := by
  have h1 := one_find ((chk_ok hc).2 k hk) h
  have h2 := (oneE_zero.1 ((chk_ok hc).2 k hk)).2.2.2 _ h
  rw [find_self hc hj, Int.toNat_natCast] at h2
  rw [find_self hc hj] at h1
  exact ⟨by omega, h2.1.1, h2.2.1⟩
theorem up_same {l : List (Int × (Int × (Int × (List Int × (Int × (Int × (Int × (Int × (Int × (Int × Unit))))))))))} (hc : chkL l = 0) : ∀ {k i : Nat}, k < l.length → Up l k i → i < k ∧ (l.getD k d0).2.2.1 = (l.getD i d0).2.2.1 ∧ (l.getD i d0).2.2.2.2.2.2.1 ≤ (l.getD k d0).2.2.2.2.2.2.1 := by
  intro k
  induction k using Nat.strongRecOn with
  | ind k ih =>
    intro i hk h
    obtain ⟨j, h1, h2, h3⟩ := h.cases hc hk
    obtain ⟨g1, g2, g3⟩ := of_step hc hk (by omega) h2
    rcases h3 with rfl | h3
    · exact ⟨g1, g2, g3⟩
    · obtain ⟨q1, q2, q3⟩ := ih j h1 (by omega) h3
      exact ⟨by omega, g2.trans q2, Int.le_trans q3 g3⟩
end Go.Proofs.Ytgljcfnplkcfhaa.S38

namespace Go.Proofs.Ytgljcfnplkcfhaa.S38
open Go

def abK (l : List (Int × (Int × (Int × (List Int × (Int × (Int × (Int × (Int × (Int × (Int × Unit))))))))))) (k : Nat) : List (List Int) := (l.take k).map fun a => abvL l a.1
def abT (l : List (Int × (Int × (Int × (List Int × (Int × (Int × (Int × (Int × (Int × (Int × Unit))))))))))) : List (List Int) := l.map fun a => abvL l a.1
theorem abK_snoc {l : List (Int × (Int × (Int × (List Int × (Int × (Int × (Int × (Int × (Int × (Int × Unit))))))))))} {k : Nat} (hk : k < l.length) : abK l (k + 1) = abK l k ++ [abvL l (l.getD k d0).1] := by
  unfold abK; rw [take_snoc d0 l k hk, List.map_append]; rfl
theorem abK_end {l : List (Int × (Int × (Int × (List Int × (Int × (Int × (Int × (Int × (Int × (Int × Unit))))))))))} {k : Nat} (hk : l.length ≤ k) : abK l k = abT l := by
  unfold abK abT; rw [List.take_of_length_le hk]
theorem abK_len (l : List (Int × (Int × (Int × (List Int × (Int × (Int × (Int × (Int × (Int × (Int × Unit))))))))))) (k : Nat) : (abK l k).length ≤ k := by unfold abK; rw [List.length_map, List.length_take]; omega
theorem abT_len (l : List (Int × (Int × (Int × (List Int × (Int × (Int × (Int × (Int × (Int × (Int × Unit))))))))))) : (abT l).length = l.length := List.length_map _
theorem abT_get {l : List (Int × (Int × (Int × (List Int × (Int × (Int × (Int × (Int × (Int × (Int × Unit))))))))))} {i : Nat} (hi : i < l.length) : (abT l).getD i [] = abvL l (l.getD i d0).1 := by
  unfold abT
  rw [List.getD_eq_getElem?_getD, List.getD_eq_getElem?_getD, List.getElem?_map, List.getElem?_eq_getElem hi]; rfl
theorem abT_le {l : List (Int × (Int × (Int × (List Int × (Int × (Int × (Int × (Int × (Int × (Int × Unit))))))))))} {i : Nat} (hi : i < l.length) : ((abT l).getD i []).length ≤ l.length := by rw [abT_get hi]; exact abvL_len _ _
theorem der_up {l : List (Int × (Int × (Int × (List Int × (Int × (Int × (Int × (Int × (Int × (Int × Unit))))))))))} (hc : chkL l = 0) {k i : Nat} (hk : k < l.length) (hi : i < l.length) : (l.getD k d0).1 ∈ (abT l).getD i [] ↔ Up l i k := by rw [abT_get hi]; exact abv_up hc hi hk
theorem der_iff {l : List (Int × (Int × (Int × (List Int × (Int × (Int × (Int × (Int × (Int × (Int × Unit))))))))))} (hc : chkL l = 0) {k i : Nat} (hk : k < l.length) (hi : i < l.length) : (l.getD k d0).1 ∈ (abT l).getD i [] ↔ (l.getD i d0).1 ∈ blwL l (l.getD k d0).1 := by rw [der_up hc hk hi, blw_up hc hk hi]
theorem der_trans {l : List (Int × (Int × (Int × (List Int × (Int × (Int × (Int × (Int × (Int × (Int × Unit))))))))))} (hc : chkL l = 0) {k i j : Nat} (hk : k < l.length) (hi : i < l.length) (hj : j < l.length) (h1 : (l.getD k d0).1 ∈ (abT l).getD i []) (h2 : (l.getD i d0).1 ∈ (abT l).getD j []) : (l.getD k d0).1 ∈ (abT l).getD j [] :=
  (der_up hc hk hj).2 (Up.trans hc hj ((der_up hc hi hj).1 h2) ((der_up hc hk hi).1 h1))
theorem der_one {l : List (Int × (Int × (Int × (List Int × (Int × (Int × (Int × (Int × (Int × (Int × Unit))))))))))} (hc : chkL l = 0) {k j : Nat} (hk : k < l.length) (hj : j < l.length) (h : (l.getD k d0).1 ∈ (l.getD j d0).2.2.2.1) : (l.getD k d0).1 ∈ (abT l).getD j [] :=
  (der_up hc hk hj).2 (Up.one hc hj (of_step hc hj hk h).1 h)
/-- Reached directly, or from what is reached directly. -/
def dirP (l : List (Int × (Int × (Int × (List Int × (Int × (Int × (Int × (Int × (Int × (Int × Unit))))))))))) (k : Nat) (x : Int) (n : Nat) : Prop := x ∈ (l.getD k d0).2.2.2.1 ∨ ∃ i, i < n ∧ (l.getD i d0).1 ∈ (l.getD k d0).2.2.2.1 ∧ x ∈ (abT l).getD i []
theorem dir_zero {l : List (Int × (Int × (Int × (List Int × (Int × (Int × (Int × (Int × (Int × (Int × Unit))))))))))} {k : Nat} {x : Int} : dirP l k x 0 = (x ∈ (l.getD k d0).2.2.2.1) := propext ⟨fun h => h.elim (fun g => g) (fun ⟨_, g, _⟩ => absurd g (by omega)), .inl⟩
theorem dir_step {l : List (Int × (Int × (Int × (List Int × (Int × (Int × (Int × (Int × (Int × (Int × Unit))))))))))} {k n : Nat} {x : Int} : dirP l k x (n + 1) ↔ dirP l k x n ∨ ((l.getD n d0).1 ∈ (l.getD k d0).2.2.2.1 ∧ x ∈ (abT l).getD n []) := by
  unfold dirP
  constructor
  · rintro (h | ⟨i, h1, h2⟩)
    · exact .inl (.inl h)
    · rcases Nat.lt_or_ge i n with g | g
      · exact .inl (.inr ⟨i, g, h2⟩)
      · have : i = n := by omega
        subst this; exact .inr h2
  · rintro ((h | ⟨i, h1, h2⟩) | h)
    · exact .inl h
    · exact .inr ⟨i, by omega, h2⟩
    · exact .inr ⟨n, by omega, h⟩
theorem dir_t {l : List (Int × (Int × (Int × (List Int × (Int × (Int × (Int × (Int × (Int × (Int × Unit))))))))))} {k n : Nat} {x : Int} (h : dirP l k x n) : dirP l k x (n + 1) = (true = true) := propext ⟨fun _ => rfl, fun _ => dir_step.2 (.inl h)⟩
theorem dir_f {l : List (Int × (Int × (Int × (List Int × (Int × (Int × (Int × (Int × (Int × (Int × Unit))))))))))} {k n : Nat} {x : Int} (h : ¬ dirP l k x n) (g : ¬ (l.getD n d0).1 ∈ (l.getD k d0).2.2.2.1) : dirP l k x (n + 1) = (false = true) := propext ⟨fun q => ((dir_step.1 q).elim h fun z => g z.1).elim, fun q => Bool.noConfusion q⟩
theorem dir_m {l : List (Int × (Int × (Int × (List Int × (Int × (Int × (Int × (Int × (Int × (Int × Unit))))))))))} {k n : Nat} {x : Int} (h : ¬ dirP l k x n) (g : (l.getD n d0).1 ∈ (l.getD k d0).2.2.2.1) : dirP l k x (n + 1) = (x ∈ (abT l).getD n []) := propext ⟨fun q => ((dir_step.1 q).resolve_left h).2, fun q => dir_step.2 (.inr ⟨g, q⟩)⟩
theorem dir_end {l : List (Int × (Int × (Int × (List Int × (Int × (Int × (Int × (Int × (Int × (Int × Unit))))))))))} (hc : chkL l = 0) {k m : Nat} (hk : k < l.length) (hm : m < ((abT l).getD k []).length) {n : Nat} (hn : l.length ≤ n) : dirP l k (((abT l).getD k []).getD m 0) n := by
  have h := getD_mem 0 _ m hm
  generalize ((abT l).getD k []).getD m 0 = x at h ⊢
  rw [abT_get hk] at h
  obtain ⟨i, hi, rfl, hu⟩ := abv_mem_id hc hk h
  obtain ⟨j, h1, h2, h3⟩ := hu.cases hc hk
  rcases h3 with rfl | h3
  · exact .inl h2
  · exact .inr ⟨j, by omega, h2, (der_up hc hi (by omega)).2 h3⟩
end Go.Proofs.Ytgljcfnplkcfhaa.S38

namespace Go.Proofs.Ytgljcfnplkcfhaa.S38
open Go Go.Proofs.Ytgljcfnplkcfhaa.Vc Go.Proofs
set_option maxRecDepth 100000
set_option linter.unusedVariables false

noncomputable def sLDer : List V → Option (Prop × V × List Blk)
  | [.sl false (.cons (.int .i64) (.cons (.int .i64) (.cons (.int .i64) (.cons (.sl (.int .i64)) (.cons (.int .i64) (.cons (.int .i64) (.cons (.int .i64) (.cons (.int .i64) (.cons (.int .i64) (.cons (.int .i64) .nil)))))))))) l] => some (l.length ≤ 1048576 ∧ (∀ a ∈ l, a.2.2.2.1.length ≤ 1048576), .b True, [])
  | _ => none
set_option maxHeartbeats 8000000 in
theorem bLDer (l : List (Int × (Int × (Int × (List Int × (Int × (Int × (Int × (Int × (Int × (Int × Unit))))))))))) (hp0 : l.length ≤ 1048576) (hp1 : (∀ a ∈ l, a.2.2.2.1.length ≤ 1048576)) : bodyP (En CRCk tys [] QOfs [1000002]) Try.f12 [.k] [.sl false (.cons (.int .i64) (.cons (.int .i64) (.cons (.int .i64) (.cons (.sl (.int .i64)) (.cons (.int .i64) (.cons (.int .i64) (.cons (.int .i64) (.cons (.int .i64) (.cons (.int .i64) (.cons (.int .i64) .nil)))))))))) l] (.b True) [] := by
 refine ⟨rfl, by show l.length ≤ 1048576; first | omega | assumption, fun h0 => ?_, fun h0 => ?_⟩
 ·replace h0 : ¬ (¬ (fewA l 30)) := h0
  refine ⟨⟨by show l.length ≤ 1048576; first | omega | assumption, by first | assumption | simp⟩, fun h1 => ?_, fun h1 => ?_⟩
  ·replace h1 : (chkL l) ≠ 0 := h1
   refine ⟨trivial, ?_⟩
   exact ⟨rfl, rfl, congrArg V.b (propext ⟨fun _ => trivial, fun _ => by first | trivial | rfl⟩), rfl⟩
  ·replace h1 : ¬ ((chkL l) ≠ 0) := h1
   have hc : chkL l = 0 := Classical.not_not.1 h1
   have hl4 := (chk_ok hc).1
   have hTl := abT_len l
   refine ⟨0, [(0, .k), (3, .o (.sl (.int .i64))), (32, .k), (33, .k), (34, .k)], fun nM vs H => ∃ (k : Nat), k ≤ l.length ∧ nM = l.length - k ∧ vs = [.sl false (.cons (.int .i64) (.cons (.int .i64) (.cons (.int .i64) (.cons (.sl (.int .i64)) (.cons (.int .i64) (.cons (.int .i64) (.cons (.int .i64) (.cons (.int .i64) (.cons (.int .i64) (.cons (.int .i64) .nil)))))))))) l, .own (.sl (.int .i64)) 0, .sl false (.cons (.int .i64) (.cons (.int .i64) (.cons (.int .i64) (.cons (.sl (.int .i64)) (.cons (.int .i64) (.cons (.int .i64) (.cons (.int .i64) (.cons (.int .i64) (.cons (.int .i64) (.cons (.int .i64) .nil)))))))))) l, .int .i64 (l.length : Int), .int .i64 (k : Int)] ∧ H = [.row true (.sl (.int .i64)) (abK l k)], ⟨rfl, l.length, 0, by omega, by omega, rfl, rfl⟩, ?_⟩
   rintro nM vs H ⟨k, hc1_0, rfl, rfl, rfl⟩
   refine ⟨fun h2 => ?_, fun h2 => ?_⟩
   ·replace h2 : (k : Int) < (l.length : Int) := h2
    have habl := abK_len l k
    refine ⟨⟨by show (0 : Int) ≤ (k : Int); omega, by show (k : Int) < (l.length : Int); omega⟩, ⟨rfl, rfl, rfl, Nat.le_of_ble_eq_true rfl⟩, rfl, ⟨by show l.length ≤ 1048576; first | omega | assumption, by first | assumption | simp⟩, fun h3 => absurd h3 (show ¬ ((closE l (l.getD k d0).1) ≠ 0) by exact fun h => h (clos_ok hc (by omega))), fun h3 => ?_⟩
    refine ⟨⟨rfl, rfl⟩, by show (abK l k).length + ([abvL l (l.getD k d0).1] : List (List Int)).length ≤ 1000000000; simp only [List.length_cons, List.length_nil]; omega, ⟨by show (-9223372036854775808 : Int) ≤ ((k : Int) + 1); omega, by show ((k : Int) + 1) ≤ (9223372036854775807 : Int); omega⟩, ?_⟩
    exact ⟨rfl, l.length - (k + 1), by omega, k + 1, by omega, rfl, rfl, by rw [abK_snoc (by omega)]; rfl⟩
   ·replace h2 : ¬ ((k : Int) < (l.length : Int)) := h2
    have hab : abK l k = abT l := abK_end (by omega)
    refine ⟨1, [(0, .k), (3, .k), (52, .k), (53, .k), (54, .k)], fun nM vs H => ∃ (q : Nat), q ≤ l.length ∧ nM = l.length - q ∧ vs = [.sl false (.cons (.int .i64) (.cons (.int .i64) (.cons (.int .i64) (.cons (.sl (.int .i64)) (.cons (.int .i64) (.cons (.int .i64) (.cons (.int .i64) (.cons (.int .i64) (.cons (.int .i64) (.cons (.int .i64) .nil)))))))))) l, .own (.sl (.int .i64)) 0, .sl false (.cons (.int .i64) (.cons (.int .i64) (.cons (.int .i64) (.cons (.sl (.int .i64)) (.cons (.int .i64) (.cons (.int .i64) (.cons (.int .i64) (.cons (.int .i64) (.cons (.int .i64) (.cons (.int .i64) .nil)))))))))) l, .int .i64 (l.length : Int), .int .i64 (q : Int)] ∧ H = [.row true (.sl (.int .i64)) (abT l)], ⟨rfl, l.length, 0, by omega, by omega, rfl, by rw [hab]; rfl⟩, ?_⟩
    rintro nM vs H ⟨q, hc2_0, rfl, rfl, rfl⟩
    refine ⟨fun h4 => ?_, fun h4 => ?_⟩
    ·replace h4 : (q : Int) < (l.length : Int) := h4
     refine ⟨⟨by show (0 : Int) ≤ (q : Int); omega, by show (q : Int) < (l.length : Int); omega⟩, ⟨rfl, rfl, rfl, Nat.le_of_ble_eq_true rfl⟩, rfl, ⟨by show l.length ≤ 1048576; first | omega | assumption, by first | assumption | simp⟩, fun h5 => absurd h5 (show ¬ ((closE l (l.getD q d0).1) ≠ 0) by exact fun h => h (clos_ok hc (by omega))), fun h5 => ?_⟩
     refine ⟨3, [(0, .k), (3, .k), (8, .k), (9, .k), (10, .k), (52, .k), (53, .k), (54, .k), (68, .k), (69, .k), (70, .k)], fun nM vs H => ∃ (i : Nat), i ≤ l.length ∧ nM = l.length - i ∧ vs = [.sl false (.cons (.int .i64) (.cons (.int .i64) (.cons (.int .i64) (.cons (.sl (.int .i64)) (.cons (.int .i64) (.cons (.int .i64) (.cons (.int .i64) (.cons (.int .i64) (.cons (.int .i64) (.cons (.int .i64) .nil)))))))))) l, .own (.sl (.int .i64)) 0, .int .i64 (q : Int), .ptr 1 1 0 0, .own (.int .i64) 2, .sl false (.cons (.int .i64) (.cons (.int .i64) (.cons (.int .i64) (.cons (.sl (.int .i64)) (.cons (.int .i64) (.cons (.int .i64) (.cons (.int .i64) (.cons (.int .i64) (.cons (.int .i64) (.cons (.int .i64) .nil)))))))))) l, .int .i64 (l.length : Int), .int .i64 (q : Int), .sl false (.cons (.int .i64) (.cons (.int .i64) (.cons (.int .i64) (.cons (.sl (.int .i64)) (.cons (.int .i64) (.cons (.int .i64) (.cons (.int .i64) (.cons (.int .i64) (.cons (.int .i64) (.cons (.int .i64) .nil)))))))))) l, .int .i64 (l.length : Int), .int .i64 (i : Int)] ∧ H = [.row true (.sl (.int .i64)) (abT l), .cells [.int .i64 (l.getD q d0).1, .int .i64 (l.getD q d0).2.1, .int .i64 (l.getD q d0).2.2.1, .sl false (.int .i64) (l.getD q d0).2.2.2.1, .int .i64 (l.getD q d0).2.2.2.2.1, .int .i64 (l.getD q d0).2.2.2.2.2.1, .int .i64 (l.getD q d0).2.2.2.2.2.2.1, .int .i64 (l.getD q d0).2.2.2.2.2.2.2.1, .int .i64 (l.getD q d0).2.2.2.2.2.2.2.2.1, .int .i64 (l.getD q d0).2.2.2.2.2.2.2.2.2.1], .row true (.int .i64) (blwL l (l.getD q d0).1)], ⟨rfl, l.length, 0, by omega, by omega, rfl, rfl⟩, ?_⟩
     rintro nM vs H ⟨i, hc3_0, rfl, rfl, rfl⟩
     refine ⟨fun h6 => ?_, fun h6 => ?_⟩
     ·replace h6 : (i : Int) < (l.length : Int) := h6
      refine ⟨⟨by show (0 : Int) ≤ (i : Int); omega, by show (i : Int) < (l.length : Int); omega⟩, ⟨rfl, rfl, rfl, Nat.le_of_ble_eq_true rfl⟩, by kernel_rfl, ⟨by show (0 : Int) ≤ (i : Int); omega, by show (i : Int) < ((abT l).length : Int); omega⟩, rfl, Nat.le_trans (abT_le (l := l) (i := i) (by omega)) (by omega), rfl, Nat.le_trans (blwL_len l (l.getD q d0).1) (by omega), fun h7 => ?_, fun h7 => absurd h7 (show ¬ (¬ ((l.getD q d0).1 ∈ ((abT l).getD i []) ↔ (l.getD i d0).1 ∈ (blwL l (l.getD q d0).1))) by exact fun h => h (der_iff hc (by omega) (by omega)))⟩
      refine ⟨fun h8 => ?_, fun h8 => ?_⟩
      ·replace h8 : (l.getD q d0).1 ∈ ((abT l).getD i []) := h8
       refine ⟨fun h9 => ?_, fun h9 => absurd h9 (show ¬ ((i : Int) ≤ (q : Int)) by have := (up_same hc (k := i) (i := q) (by omega) ((der_up hc (by omega) (by omega)).1 (by assumption))).1; omega)⟩
       refine ⟨fun h10 => ?_, fun h10 => absurd h10 (show ¬ ((l.getD q d0).2.2.1 ≠ (l.getD i d0).2.2.1) by exact fun h => h (up_same hc (k := i) (i := q) (by omega) ((der_up hc (by omega) (by omega)).1 (by assumption))).2.1.symm)⟩
       refine ⟨fun h11 => absurd h11 (show ¬ ((l.getD i d0).2.2.2.2.2.2.1 < (l.getD q d0).2.2.2.2.2.2.1) by have := (up_same hc (k := i) (i := q) (by omega) ((der_up hc (by omega) (by omega)).1 (by assumption))).2.2; omega), fun h11 => ?_⟩
       refine ⟨4, [(0, .k), (3, .k), (8, .k), (9, .k), (10, .k), (13, .k), (14, .k), (52, .k), (53, .k), (54, .k), (68, .k), (69, .k), (70, .k), (110, .k), (111, .k), (112, .k)], fun nM vs H => ∃ (j : Nat), j ≤ l.length ∧ nM = l.length - j ∧ vs = [.sl false (.cons (.int .i64) (.cons (.int .i64) (.cons (.int .i64) (.cons (.sl (.int .i64)) (.cons (.int .i64) (.cons (.int .i64) (.cons (.int .i64) (.cons (.int .i64) (.cons (.int .i64) (.cons (.int .i64) .nil)))))))))) l, .own (.sl (.int .i64)) 0, .int .i64 (q : Int), .ptr 1 1 0 0, .own (.int .i64) 2, .ptr 3 1 0 0, .b ((l.getD q d0).1 ∈ ((abT l).getD i [])), .sl false (.cons (.int .i64) (.cons (.int .i64) (.cons (.int .i64) (.cons (.sl (.int .i64)) (.cons (.int .i64) (.cons (.int .i64) (.cons (.int .i64) (.cons (.int .i64) (.cons (.int .i64) (.cons (.int .i64) .nil)))))))))) l, .int .i64 (l.length : Int), .int .i64 (q : Int), .sl false (.cons (.int .i64) (.cons (.int .i64) (.cons (.int .i64) (.cons (.sl (.int .i64)) (.cons (.int .i64) (.cons (.int .i64) (.cons (.int .i64) (.cons (.int .i64) (.cons (.int .i64) (.cons (.int .i64) .nil)))))))))) l, .int .i64 (l.length : Int), .int .i64 (i : Int), .sl false (.cons (.int .i64) (.cons (.int .i64) (.cons (.int .i64) (.cons (.sl (.int .i64)) (.cons (.int .i64) (.cons (.int .i64) (.cons (.int .i64) (.cons (.int .i64) (.cons (.int .i64) (.cons (.int .i64) .nil)))))))))) l, .int .i64 (l.length : Int), .int .i64 (j : Int)] ∧ H = [.row true (.sl (.int .i64)) (abT l), .cells [.int .i64 (l.getD q d0).1, .int .i64 (l.getD q d0).2.1, .int .i64 (l.getD q d0).2.2.1, .sl false (.int .i64) (l.getD q d0).2.2.2.1, .int .i64 (l.getD q d0).2.2.2.2.1, .int .i64 (l.getD q d0).2.2.2.2.2.1, .int .i64 (l.getD q d0).2.2.2.2.2.2.1, .int .i64 (l.getD q d0).2.2.2.2.2.2.2.1, .int .i64 (l.getD q d0).2.2.2.2.2.2.2.2.1, .int .i64 (l.getD q d0).2.2.2.2.2.2.2.2.2.1], .row true (.int .i64) (blwL l (l.getD q d0).1), .cells [.int .i64 (l.getD i d0).1, .int .i64 (l.getD i d0).2.1, .int .i64 (l.getD i d0).2.2.1, .sl false (.int .i64) (l.getD i d0).2.2.2.1, .int .i64 (l.getD i d0).2.2.2.2.1, .int .i64 (l.getD i d0).2.2.2.2.2.1, .int .i64 (l.getD i d0).2.2.2.2.2.2.1, .int .i64 (l.getD i d0).2.2.2.2.2.2.2.1, .int .i64 (l.getD i d0).2.2.2.2.2.2.2.2.1, .int .i64 (l.getD i d0).2.2.2.2.2.2.2.2.2.1]], ⟨rfl, l.length, 0, by omega, by omega, rfl, rfl⟩, ?_⟩
       rintro nM vs H ⟨j, hc4_0, rfl, rfl, rfl⟩
       refine ⟨fun h12 => ?_, fun h12 => ?_⟩
       ·replace h12 : (j : Int) < (l.length : Int) := h12
        refine ⟨⟨by show (0 : Int) ≤ (j : Int); omega, by show (j : Int) < (l.length : Int); omega⟩, ⟨rfl, rfl, rfl, Nat.le_of_ble_eq_true rfl⟩, by kernel_rfl, fun h13 => ?_, fun h13 => absurd (show (l.getD q d0).1 ∈ ((abT l).getD i []) by first | omega | assumption | simp_all) h13⟩
        refine ⟨fun h14 => ?_, fun h14 => absurd (show (l.getD q d0).1 ∈ ((abT l).getD i []) by first | omega | assumption | simp_all) h14⟩
        refine ⟨fun h15 => ?_, fun h15 => absurd (show (l.getD q d0).1 ∈ ((abT l).getD i []) by first | omega | assumption | simp_all) h15⟩
        refine ⟨⟨by show (0 : Int) ≤ (j : Int); omega, by show (j : Int) < ((abT l).length : Int); omega⟩, fun h16 => ?_, fun h16 => absurd (show (l.getD q d0).1 ∈ ((abT l).getD i []) by first | omega | assumption | simp_all) h16⟩
        refine ⟨fun h17 => ?_, fun h17 => absurd (show (l.getD q d0).1 ∈ ((abT l).getD i []) by first | omega | assumption | simp_all) h17⟩
        refine ⟨fun h18 => ?_, fun h18 => absurd (show (l.getD q d0).1 ∈ ((abT l).getD i []) by first | omega | assumption | simp_all) h18⟩
        refine ⟨fun h19 => ?_, fun h19 => absurd (show (l.getD q d0).1 ∈ ((abT l).getD i []) by first | omega | assumption | simp_all) h19⟩
        refine ⟨rfl, Nat.le_trans (abT_le (l := l) (i := j) (by omega)) (by omega), fun h20 => ?_, fun h20 => absurd (show (l.getD q d0).1 ∈ ((abT l).getD i []) by first | omega | assumption | simp_all) h20⟩
        refine ⟨fun h21 => ?_, fun h21 => ?_⟩
        ·replace h21 : (l.getD i d0).1 ∈ ((abT l).getD j []) := h21
         refine ⟨fun h22 => ?_, fun h22 => absurd (show (l.getD i d0).1 ∈ ((abT l).getD j []) by first | omega | assumption | simp_all) h22⟩
         refine ⟨fun h23 => ?_, fun h23 => absurd (show (l.getD i d0).1 ∈ ((abT l).getD j []) by first | omega | assumption | simp_all) h23⟩
         refine ⟨⟨by show (0 : Int) ≤ (j : Int); omega, by show (j : Int) < ((abT l).length : Int); omega⟩, fun h24 => ?_, fun h24 => absurd (show (l.getD i d0).1 ∈ ((abT l).getD j []) by first | omega | assumption | simp_all) h24⟩
         refine ⟨fun h25 => ?_, fun h25 => absurd (show (l.getD i d0).1 ∈ ((abT l).getD j []) by first | omega | assumption | simp_all) h25⟩
         refine ⟨fun h26 => ?_, fun h26 => absurd (show (l.getD i d0).1 ∈ ((abT l).getD j []) by first | omega | assumption | simp_all) h26⟩
         refine ⟨fun h27 => ?_, fun h27 => absurd (show (l.getD i d0).1 ∈ ((abT l).getD j []) by first | omega | assumption | simp_all) h27⟩
         refine ⟨rfl, Nat.le_trans (abT_le (l := l) (i := j) (by omega)) (by omega), fun h28 => ?_, fun h28 => absurd (show (l.getD i d0).1 ∈ ((abT l).getD j []) by first | omega | assumption | simp_all) h28⟩
         refine ⟨fun h29 => ?_, fun h29 => absurd (show (l.getD i d0).1 ∈ ((abT l).getD j []) by first | omega | assumption | simp_all) h29⟩
         refine ⟨fun h30 => absurd h30 (show ¬ (¬ ((l.getD q d0).1 ∈ ((abT l).getD j []))) by exact fun h => h (by first | exact der_one hc (by omega) (by omega) (by assumption) | exact der_trans (i := i) hc (by omega) (by omega) (by omega) (by assumption) (by assumption))), fun h30 => ?_⟩
         refine ⟨by kernel_rfl, rfl, hp1 _ (getD_mem d0 l j (by omega)), fun h31 => ?_, fun h31 => ?_⟩
         ·replace h31 : (l.getD q d0).1 ∈ (l.getD j d0).2.2.2.1 := h31
          refine ⟨fun h32 => ?_, fun h32 => absurd (show (l.getD q d0).1 ∈ (l.getD j d0).2.2.2.1 by first | omega | assumption | simp_all) h32⟩
          refine ⟨fun h33 => ?_, fun h33 => absurd (show (l.getD q d0).1 ∈ (l.getD j d0).2.2.2.1 by first | omega | assumption | simp_all) h33⟩
          refine ⟨⟨by show (0 : Int) ≤ (j : Int); omega, by show (j : Int) < ((abT l).length : Int); omega⟩, fun h34 => ?_, fun h34 => absurd (show (l.getD q d0).1 ∈ (l.getD j d0).2.2.2.1 by first | omega | assumption | simp_all) h34⟩
          refine ⟨fun h35 => ?_, fun h35 => absurd (show (l.getD q d0).1 ∈ (l.getD j d0).2.2.2.1 by first | omega | assumption | simp_all) h35⟩
          refine ⟨fun h36 => ?_, fun h36 => absurd (show (l.getD q d0).1 ∈ (l.getD j d0).2.2.2.1 by first | omega | assumption | simp_all) h36⟩
          refine ⟨fun h37 => ?_, fun h37 => absurd (show (l.getD q d0).1 ∈ (l.getD j d0).2.2.2.1 by first | omega | assumption | simp_all) h37⟩
          refine ⟨rfl, Nat.le_trans (abT_le (l := l) (i := j) (by omega)) (by omega), fun h38 => ?_, fun h38 => absurd (show (l.getD q d0).1 ∈ (l.getD j d0).2.2.2.1 by first | omega | assumption | simp_all) h38⟩
          refine ⟨fun h39 => ?_, fun h39 => absurd (show (l.getD q d0).1 ∈ (l.getD j d0).2.2.2.1 by first | omega | assumption | simp_all) h39⟩
          refine ⟨fun h40 => absurd h40 (show ¬ (¬ ((l.getD q d0).1 ∈ ((abT l).getD j []))) by exact fun h => h (by first | exact der_one hc (by omega) (by omega) (by assumption) | exact der_trans (i := i) hc (by omega) (by omega) (by omega) (by assumption) (by assumption))), fun h40 => ?_⟩
          refine ⟨⟨by show (-9223372036854775808 : Int) ≤ ((j : Int) + 1); omega, by show ((j : Int) + 1) ≤ (9223372036854775807 : Int); omega⟩, ?_⟩
          exact ⟨rfl, l.length - (j + 1), by omega, j + 1, by omega, rfl, rfl, rfl⟩
         ·replace h31 : ¬ ((l.getD q d0).1 ∈ (l.getD j d0).2.2.2.1) := h31
          refine ⟨fun h41 => absurd h41 (show ¬ ((l.getD q d0).1 ∈ (l.getD j d0).2.2.2.1) by first | omega | assumption | simp_all), fun h41 => ?_⟩
          refine ⟨fun h42 => absurd h42 (show ¬ ((l.getD q d0).1 ∈ (l.getD j d0).2.2.2.1) by first | omega | assumption | simp_all), fun h42 => ?_⟩
          refine ⟨fun h43 => absurd h43 (show ¬ ((l.getD q d0).1 ∈ (l.getD j d0).2.2.2.1) by first | omega | assumption | simp_all), fun h43 => ?_⟩
          refine ⟨fun h44 => absurd h44 (show ¬ ((l.getD q d0).1 ∈ (l.getD j d0).2.2.2.1) by first | omega | assumption | simp_all), fun h44 => ?_⟩
          refine ⟨fun h45 => absurd h45 (show ¬ ((l.getD q d0).1 ∈ (l.getD j d0).2.2.2.1) by first | omega | assumption | simp_all), fun h45 => ?_⟩
          refine ⟨fun h46 => absurd h46 (show ¬ ((l.getD q d0).1 ∈ (l.getD j d0).2.2.2.1) by first | omega | assumption | simp_all), fun h46 => ?_⟩
          refine ⟨fun h47 => absurd h47 (show ¬ ((l.getD q d0).1 ∈ (l.getD j d0).2.2.2.1) by first | omega | assumption | simp_all), fun h47 => ?_⟩
          refine ⟨fun h48 => absurd h48 (show ¬ ((l.getD q d0).1 ∈ (l.getD j d0).2.2.2.1) by first | omega | assumption | simp_all), fun h48 => ?_⟩
          refine ⟨⟨by show (-9223372036854775808 : Int) ≤ ((j : Int) + 1); omega, by show ((j : Int) + 1) ≤ (9223372036854775807 : Int); omega⟩, ?_⟩
          exact ⟨rfl, l.length - (j + 1), by omega, j + 1, by omega, rfl, rfl, rfl⟩
        ·replace h21 : ¬ ((l.getD i d0).1 ∈ ((abT l).getD j [])) := h21
         refine ⟨fun h49 => absurd h49 (show ¬ ((l.getD i d0).1 ∈ ((abT l).getD j [])) by first | omega | assumption | simp_all), fun h49 => ?_⟩
         refine ⟨fun h50 => absurd h50 (show ¬ ((l.getD i d0).1 ∈ ((abT l).getD j [])) by first | omega | assumption | simp_all), fun h50 => ?_⟩
         refine ⟨fun h51 => absurd h51 (show ¬ ((l.getD i d0).1 ∈ ((abT l).getD j [])) by first | omega | assumption | simp_all), fun h51 => ?_⟩
         refine ⟨fun h52 => absurd h52 (show ¬ ((l.getD i d0).1 ∈ ((abT l).getD j [])) by first | omega | assumption | simp_all), fun h52 => ?_⟩
         refine ⟨fun h53 => absurd h53 (show ¬ ((l.getD i d0).1 ∈ ((abT l).getD j [])) by first | omega | assumption | simp_all), fun h53 => ?_⟩
         refine ⟨fun h54 => absurd h54 (show ¬ ((l.getD i d0).1 ∈ ((abT l).getD j [])) by first | omega | assumption | simp_all), fun h54 => ?_⟩
         refine ⟨fun h55 => absurd h55 (show ¬ ((l.getD i d0).1 ∈ ((abT l).getD j [])) by first | omega | assumption | simp_all), fun h55 => ?_⟩
         refine ⟨fun h56 => absurd h56 (show ¬ ((l.getD i d0).1 ∈ ((abT l).getD j [])) by first | omega | assumption | simp_all), fun h56 => ?_⟩
         refine ⟨by kernel_rfl, rfl, hp1 _ (getD_mem d0 l j (by omega)), fun h57 => ?_, fun h57 => ?_⟩
         ·replace h57 : (l.getD q d0).1 ∈ (l.getD j d0).2.2.2.1 := h57
          refine ⟨fun h58 => ?_, fun h58 => absurd (show (l.getD q d0).1 ∈ (l.getD j d0).2.2.2.1 by first | omega | assumption | simp_all) h58⟩
          refine ⟨fun h59 => ?_, fun h59 => absurd (show (l.getD q d0).1 ∈ (l.getD j d0).2.2.2.1 by first | omega | assumption | simp_all) h59⟩
          refine ⟨⟨by show (0 : Int) ≤ (j : Int); omega, by show (j : Int) < ((abT l).length : Int); omega⟩, fun h60 => ?_, fun h60 => absurd (show (l.getD q d0).1 ∈ (l.getD j d0).2.2.2.1 by first | omega | assumption | simp_all) h60⟩
          refine ⟨fun h61 => ?_, fun h61 => absurd (show (l.getD q d0).1 ∈ (l.getD j d0).2.2.2.1 by first | omega | assumption | simp_all) h61⟩
          refine ⟨fun h62 => ?_, fun h62 => absurd (show (l.getD q d0).1 ∈ (l.getD j d0).2.2.2.1 by first | omega | assumption | simp_all) h62⟩
          refine ⟨fun h63 => ?_, fun h63 => absurd (show (l.getD q d0).1 ∈ (l.getD j d0).2.2.2.1 by first | omega | assumption | simp_all) h63⟩
          refine ⟨rfl, Nat.le_trans (abT_le (l := l) (i := j) (by omega)) (by omega), fun h64 => ?_, fun h64 => absurd (show (l.getD q d0).1 ∈ (l.getD j d0).2.2.2.1 by first | omega | assumption | simp_all) h64⟩
          refine ⟨fun h65 => ?_, fun h65 => absurd (show (l.getD q d0).1 ∈ (l.getD j d0).2.2.2.1 by first | omega | assumption | simp_all) h65⟩
          refine ⟨fun h66 => absurd h66 (show ¬ (¬ ((l.getD q d0).1 ∈ ((abT l).getD j []))) by exact fun h => h (by first | exact der_one hc (by omega) (by omega) (by assumption) | exact der_trans (i := i) hc (by omega) (by omega) (by omega) (by assumption) (by assumption))), fun h66 => ?_⟩
          refine ⟨⟨by show (-9223372036854775808 : Int) ≤ ((j : Int) + 1); omega, by show ((j : Int) + 1) ≤ (9223372036854775807 : Int); omega⟩, ?_⟩
          exact ⟨rfl, l.length - (j + 1), by omega, j + 1, by omega, rfl, rfl, rfl⟩
         ·replace h57 : ¬ ((l.getD q d0).1 ∈ (l.getD j d0).2.2.2.1) := h57
          refine ⟨fun h67 => absurd h67 (show ¬ ((l.getD q d0).1 ∈ (l.getD j d0).2.2.2.1) by first | omega | assumption | simp_all), fun h67 => ?_⟩
          refine ⟨fun h68 => absurd h68 (show ¬ ((l.getD q d0).1 ∈ (l.getD j d0).2.2.2.1) by first | omega | assumption | simp_all), fun h68 => ?_⟩
          refine ⟨fun h69 => absurd h69 (show ¬ ((l.getD q d0).1 ∈ (l.getD j d0).2.2.2.1) by first | omega | assumption | simp_all), fun h69 => ?_⟩
          refine ⟨fun h70 => absurd h70 (show ¬ ((l.getD q d0).1 ∈ (l.getD j d0).2.2.2.1) by first | omega | assumption | simp_all), fun h70 => ?_⟩
          refine ⟨fun h71 => absurd h71 (show ¬ ((l.getD q d0).1 ∈ (l.getD j d0).2.2.2.1) by first | omega | assumption | simp_all), fun h71 => ?_⟩
          refine ⟨fun h72 => absurd h72 (show ¬ ((l.getD q d0).1 ∈ (l.getD j d0).2.2.2.1) by first | omega | assumption | simp_all), fun h72 => ?_⟩
          refine ⟨fun h73 => absurd h73 (show ¬ ((l.getD q d0).1 ∈ (l.getD j d0).2.2.2.1) by first | omega | assumption | simp_all), fun h73 => ?_⟩
          refine ⟨fun h74 => absurd h74 (show ¬ ((l.getD q d0).1 ∈ (l.getD j d0).2.2.2.1) by first | omega | assumption | simp_all), fun h74 => ?_⟩
          refine ⟨⟨by show (-9223372036854775808 : Int) ≤ ((j : Int) + 1); omega, by show ((j : Int) + 1) ≤ (9223372036854775807 : Int); omega⟩, ?_⟩
          exact ⟨rfl, l.length - (j + 1), by omega, j + 1, by omega, rfl, rfl, rfl⟩
       ·replace h12 : ¬ ((j : Int) < (l.length : Int)) := h12
        refine ⟨⟨by show (-9223372036854775808 : Int) ≤ ((i : Int) + 1); omega, by show ((i : Int) + 1) ≤ (9223372036854775807 : Int); omega⟩, ?_⟩
        exact ⟨rfl, l.length - (i + 1), by omega, i + 1, by omega, rfl, rfl, rfl⟩
      ·replace h8 : ¬ ((l.getD q d0).1 ∈ ((abT l).getD i [])) := h8
       refine ⟨4, [(0, .k), (3, .k), (8, .k), (9, .k), (10, .k), (13, .k), (14, .k), (52, .k), (53, .k), (54, .k), (68, .k), (69, .k), (70, .k), (110, .k), (111, .k), (112, .k)], fun nM vs H => ∃ (j : Nat), j ≤ l.length ∧ nM = l.length - j ∧ vs = [.sl false (.cons (.int .i64) (.cons (.int .i64) (.cons (.int .i64) (.cons (.sl (.int .i64)) (.cons (.int .i64) (.cons (.int .i64) (.cons (.int .i64) (.cons (.int .i64) (.cons (.int .i64) (.cons (.int .i64) .nil)))))))))) l, .own (.sl (.int .i64)) 0, .int .i64 (q : Int), .ptr 1 1 0 0, .own (.int .i64) 2, .ptr 3 1 0 0, .b ((l.getD q d0).1 ∈ ((abT l).getD i [])), .sl false (.cons (.int .i64) (.cons (.int .i64) (.cons (.int .i64) (.cons (.sl (.int .i64)) (.cons (.int .i64) (.cons (.int .i64) (.cons (.int .i64) (.cons (.int .i64) (.cons (.int .i64) (.cons (.int .i64) .nil)))))))))) l, .int .i64 (l.length : Int), .int .i64 (q : Int), .sl false (.cons (.int .i64) (.cons (.int .i64) (.cons (.int .i64) (.cons (.sl (.int .i64)) (.cons (.int .i64) (.cons (.int .i64) (.cons (.int .i64) (.cons (.int .i64) (.cons (.int .i64) (.cons (.int .i64) .nil)))))))))) l, .int .i64 (l.length : Int), .int .i64 (i : Int), .sl false (.cons (.int .i64) (.cons (.int .i64) (.cons (.int .i64) (.cons (.sl (.int .i64)) (.cons (.int .i64) (.cons (.int .i64) (.cons (.int .i64) (.cons (.int .i64) (.cons (.int .i64) (.cons (.int .i64) .nil)))))))))) l, .int .i64 (l.length : Int), .int .i64 (j : Int)] ∧ H = [.row true (.sl (.int .i64)) (abT l), .cells [.int .i64 (l.getD q d0).1, .int .i64 (l.getD q d0).2.1, .int .i64 (l.getD q d0).2.2.1, .sl false (.int .i64) (l.getD q d0).2.2.2.1, .int .i64 (l.getD q d0).2.2.2.2.1, .int .i64 (l.getD q d0).2.2.2.2.2.1, .int .i64 (l.getD q d0).2.2.2.2.2.2.1, .int .i64 (l.getD q d0).2.2.2.2.2.2.2.1, .int .i64 (l.getD q d0).2.2.2.2.2.2.2.2.1, .int .i64 (l.getD q d0).2.2.2.2.2.2.2.2.2.1], .row true (.int .i64) (blwL l (l.getD q d0).1), .cells [.int .i64 (l.getD i d0).1, .int .i64 (l.getD i d0).2.1, .int .i64 (l.getD i d0).2.2.1, .sl false (.int .i64) (l.getD i d0).2.2.2.1, .int .i64 (l.getD i d0).2.2.2.2.1, .int .i64 (l.getD i d0).2.2.2.2.2.1, .int .i64 (l.getD i d0).2.2.2.2.2.2.1, .int .i64 (l.getD i d0).2.2.2.2.2.2.2.1, .int .i64 (l.getD i d0).2.2.2.2.2.2.2.2.1, .int .i64 (l.getD i d0).2.2.2.2.2.2.2.2.2.1]], ⟨rfl, l.length, 0, by omega, by omega, rfl, rfl⟩, ?_⟩
       rintro nM vs H ⟨j, hc5_0, rfl, rfl, rfl⟩
       refine ⟨fun h75 => ?_, fun h75 => ?_⟩
       ·replace h75 : (j : Int) < (l.length : Int) := h75
        refine ⟨⟨by show (0 : Int) ≤ (j : Int); omega, by show (j : Int) < (l.length : Int); omega⟩, ⟨rfl, rfl, rfl, Nat.le_of_ble_eq_true rfl⟩, by kernel_rfl, fun h76 => absurd h76 (show ¬ ((l.getD q d0).1 ∈ ((abT l).getD i [])) by first | omega | assumption | simp_all), fun h76 => ?_⟩
        refine ⟨fun h77 => absurd h77 (show ¬ ((l.getD q d0).1 ∈ ((abT l).getD i [])) by first | omega | assumption | simp_all), fun h77 => ?_⟩
        refine ⟨fun h78 => absurd h78 (show ¬ ((l.getD q d0).1 ∈ ((abT l).getD i [])) by first | omega | assumption | simp_all), fun h78 => ?_⟩
        refine ⟨fun h79 => absurd h79 (show ¬ ((l.getD q d0).1 ∈ ((abT l).getD i [])) by first | omega | assumption | simp_all), fun h79 => ?_⟩
        refine ⟨fun h80 => absurd h80 (show ¬ ((l.getD q d0).1 ∈ ((abT l).getD i [])) by first | omega | assumption | simp_all), fun h80 => ?_⟩
        refine ⟨fun h81 => absurd h81 (show ¬ ((l.getD q d0).1 ∈ ((abT l).getD i [])) by first | omega | assumption | simp_all), fun h81 => ?_⟩
        refine ⟨fun h82 => absurd h82 (show ¬ ((l.getD q d0).1 ∈ ((abT l).getD i [])) by first | omega | assumption | simp_all), fun h82 => ?_⟩
        refine ⟨fun h83 => absurd h83 (show ¬ ((l.getD q d0).1 ∈ ((abT l).getD i [])) by first | omega | assumption | simp_all), fun h83 => ?_⟩
        refine ⟨by kernel_rfl, rfl, hp1 _ (getD_mem d0 l j (by omega)), fun h84 => ?_, fun h84 => ?_⟩
        ·replace h84 : (l.getD q d0).1 ∈ (l.getD j d0).2.2.2.1 := h84
         refine ⟨fun h85 => ?_, fun h85 => absurd (show (l.getD q d0).1 ∈ (l.getD j d0).2.2.2.1 by first | omega | assumption | simp_all) h85⟩
         refine ⟨fun h86 => ?_, fun h86 => absurd (show (l.getD q d0).1 ∈ (l.getD j d0).2.2.2.1 by first | omega | assumption | simp_all) h86⟩
         refine ⟨⟨by show (0 : Int) ≤ (j : Int); omega, by show (j : Int) < ((abT l).length : Int); omega⟩, fun h87 => ?_, fun h87 => absurd (show (l.getD q d0).1 ∈ (l.getD j d0).2.2.2.1 by first | omega | assumption | simp_all) h87⟩
         refine ⟨fun h88 => ?_, fun h88 => absurd (show (l.getD q d0).1 ∈ (l.getD j d0).2.2.2.1 by first | omega | assumption | simp_all) h88⟩
         refine ⟨fun h89 => ?_, fun h89 => absurd (show (l.getD q d0).1 ∈ (l.getD j d0).2.2.2.1 by first | omega | assumption | simp_all) h89⟩
         refine ⟨fun h90 => ?_, fun h90 => absurd (show (l.getD q d0).1 ∈ (l.getD j d0).2.2.2.1 by first | omega | assumption | simp_all) h90⟩
         refine ⟨rfl, Nat.le_trans (abT_le (l := l) (i := j) (by omega)) (by omega), fun h91 => ?_, fun h91 => absurd (show (l.getD q d0).1 ∈ (l.getD j d0).2.2.2.1 by first | omega | assumption | simp_all) h91⟩
         refine ⟨fun h92 => ?_, fun h92 => absurd (show (l.getD q d0).1 ∈ (l.getD j d0).2.2.2.1 by first | omega | assumption | simp_all) h92⟩
         refine ⟨fun h93 => absurd h93 (show ¬ (¬ ((l.getD q d0).1 ∈ ((abT l).getD j []))) by exact fun h => h (by first | exact der_one hc (by omega) (by omega) (by assumption) | exact der_trans (i := i) hc (by omega) (by omega) (by omega) (by assumption) (by assumption))), fun h93 => ?_⟩
         refine ⟨⟨by show (-9223372036854775808 : Int) ≤ ((j : Int) + 1); omega, by show ((j : Int) + 1) ≤ (9223372036854775807 : Int); omega⟩, ?_⟩
         exact ⟨rfl, l.length - (j + 1), by omega, j + 1, by omega, rfl, rfl, rfl⟩
        ·replace h84 : ¬ ((l.getD q d0).1 ∈ (l.getD j d0).2.2.2.1) := h84
         refine ⟨fun h94 => absurd h94 (show ¬ ((l.getD q d0).1 ∈ (l.getD j d0).2.2.2.1) by first | omega | assumption | simp_all), fun h94 => ?_⟩
         refine ⟨fun h95 => absurd h95 (show ¬ ((l.getD q d0).1 ∈ (l.getD j d0).2.2.2.1) by first | omega | assumption | simp_all), fun h95 => ?_⟩
         refine ⟨fun h96 => absurd h96 (show ¬ ((l.getD q d0).1 ∈ (l.getD j d0).2.2.2.1) by first | omega | assumption | simp_all), fun h96 => ?_⟩
         refine ⟨fun h97 => absurd h97 (show ¬ ((l.getD q d0).1 ∈ (l.getD j d0).2.2.2.1) by first | omega | assumption | simp_all), fun h97 => ?_⟩
         refine ⟨fun h98 => absurd h98 (show ¬ ((l.getD q d0).1 ∈ (l.getD j d0).2.2.2.1) by first | omega | assumption | simp_all), fun h98 => ?_⟩
         refine ⟨fun h99 => absurd h99 (show ¬ ((l.getD q d0).1 ∈ (l.getD j d0).2.2.2.1) by first | omega | assumption | simp_all), fun h99 => ?_⟩
         refine ⟨fun h100 => absurd h100 (show ¬ ((l.getD q d0).1 ∈ (l.getD j d0).2.2.2.1) by first | omega | assumption | simp_all), fun h100 => ?_⟩
         refine ⟨fun h101 => absurd h101 (show ¬ ((l.getD q d0).1 ∈ (l.getD j d0).2.2.2.1) by first | omega | assumption | simp_all), fun h101 => ?_⟩
         refine ⟨⟨by show (-9223372036854775808 : Int) ≤ ((j : Int) + 1); omega, by show ((j : Int) + 1) ≤ (9223372036854775807 : Int); omega⟩, ?_⟩
         exact ⟨rfl, l.length - (j + 1), by omega, j + 1, by omega, rfl, rfl, rfl⟩
       ·replace h75 : ¬ ((j : Int) < (l.length : Int)) := h75
        refine ⟨⟨by show (-9223372036854775808 : Int) ≤ ((i : Int) + 1); omega, by show ((i : Int) + 1) ≤ (9223372036854775807 : Int); omega⟩, ?_⟩
        exact ⟨rfl, l.length - (i + 1), by omega, i + 1, by omega, rfl, rfl, rfl⟩
     ·replace h6 : ¬ ((i : Int) < (l.length : Int)) := h6
      refine ⟨⟨by show (0 : Int) ≤ (q : Int); omega, by show (q : Int) < ((abT l).length : Int); omega⟩, 3, [(0, .k), (3, .k), (8, .k), (9, .k), (17, .k), (52, .k), (53, .k), (54, .k), (157, .k), (158, .k), (159, .k)], fun nM vs H => ∃ (m : Nat), m ≤ ((abT l).getD q []).length ∧ nM = ((abT l).getD q []).length - m ∧ vs = [.sl false (.cons (.int .i64) (.cons (.int .i64) (.cons (.int .i64) (.cons (.sl (.int .i64)) (.cons (.int .i64) (.cons (.int .i64) (.cons (.int .i64) (.cons (.int .i64) (.cons (.int .i64) (.cons (.int .i64) .nil)))))))))) l, .own (.sl (.int .i64)) 0, .int .i64 (q : Int), .ptr 1 1 0 0, .int .i64 (m : Int), .sl false (.cons (.int .i64) (.cons (.int .i64) (.cons (.int .i64) (.cons (.sl (.int .i64)) (.cons (.int .i64) (.cons (.int .i64) (.cons (.int .i64) (.cons (.int .i64) (.cons (.int .i64) (.cons (.int .i64) .nil)))))))))) l, .int .i64 (l.length : Int), .int .i64 (q : Int), .sl true (.int .i64) ((abT l).getD q []), .int .i64 ((((abT l).getD q []).length : Nat) : Int), .int .i64 (m : Int)] ∧ H = [.row true (.sl (.int .i64)) (abT l), .cells [.int .i64 (l.getD q d0).1, .int .i64 (l.getD q d0).2.1, .int .i64 (l.getD q d0).2.2.1, .sl false (.int .i64) (l.getD q d0).2.2.2.1, .int .i64 (l.getD q d0).2.2.2.2.1, .int .i64 (l.getD q d0).2.2.2.2.2.1, .int .i64 (l.getD q d0).2.2.2.2.2.2.1, .int .i64 (l.getD q d0).2.2.2.2.2.2.2.1, .int .i64 (l.getD q d0).2.2.2.2.2.2.2.2.1, .int .i64 (l.getD q d0).2.2.2.2.2.2.2.2.2.1], .row true (.int .i64) (blwL l (l.getD q d0).1)], ⟨rfl, ((abT l).getD q []).length, 0, by omega, by omega, rfl, rfl⟩, ?_⟩
      rintro nM vs H ⟨m, hc6_0, rfl, rfl, rfl⟩
      have hml := abT_le (l := l) (i := q) (by omega)
      refine ⟨fun h102 => ?_, fun h102 => ?_⟩
      ·replace h102 : (m : Int) < ((((abT l).getD q []).length : Nat) : Int) := h102
       refine ⟨⟨by show (0 : Int) ≤ (m : Int); omega, by show (m : Int) < (((abT l).getD q []).length : Int); omega⟩, rfl, hp1 _ (getD_mem d0 l q (by omega)), 3, [(0, .k), (3, .k), (8, .k), (9, .k), (17, .k), (19, .k), (20, .k), (52, .k), (53, .k), (54, .k), (157, .k), (158, .k), (159, .k), (167, .k), (168, .k), (169, .k)], fun nM vs H => ∃ (e : Nat), e ≤ l.length ∧ nM = l.length - e ∧ vs = [.sl false (.cons (.int .i64) (.cons (.int .i64) (.cons (.int .i64) (.cons (.sl (.int .i64)) (.cons (.int .i64) (.cons (.int .i64) (.cons (.int .i64) (.cons (.int .i64) (.cons (.int .i64) (.cons (.int .i64) .nil)))))))))) l, .own (.sl (.int .i64)) 0, .int .i64 (q : Int), .ptr 1 1 0 0, .int .i64 (m : Int), .int .i64 (((abT l).getD q []).getD m 0), .b (dirP l q (((abT l).getD q []).getD m 0) e), .sl false (.cons (.int .i64) (.cons (.int .i64) (.cons (.int .i64) (.cons (.sl (.int .i64)) (.cons (.int .i64) (.cons (.int .i64) (.cons (.int .i64) (.cons (.int .i64) (.cons (.int .i64) (.cons (.int .i64) .nil)))))))))) l, .int .i64 (l.length : Int), .int .i64 (q : Int), .sl true (.int .i64) ((abT l).getD q []), .int .i64 ((((abT l).getD q []).length : Nat) : Int), .int .i64 (m : Int), .sl false (.cons (.int .i64) (.cons (.int .i64) (.cons (.int .i64) (.cons (.sl (.int .i64)) (.cons (.int .i64) (.cons (.int .i64) (.cons (.int .i64) (.cons (.int .i64) (.cons (.int .i64) (.cons (.int .i64) .nil)))))))))) l, .int .i64 (l.length : Int), .int .i64 (e : Int)] ∧ H = [.row true (.sl (.int .i64)) (abT l), .cells [.int .i64 (l.getD q d0).1, .int .i64 (l.getD q d0).2.1, .int .i64 (l.getD q d0).2.2.1, .sl false (.int .i64) (l.getD q d0).2.2.2.1, .int .i64 (l.getD q d0).2.2.2.2.1, .int .i64 (l.getD q d0).2.2.2.2.2.1, .int .i64 (l.getD q d0).2.2.2.2.2.2.1, .int .i64 (l.getD q d0).2.2.2.2.2.2.2.1, .int .i64 (l.getD q d0).2.2.2.2.2.2.2.2.1, .int .i64 (l.getD q d0).2.2.2.2.2.2.2.2.2.1], .row true (.int .i64) (blwL l (l.getD q d0).1)], ⟨rfl, l.length, 0, by omega, by omega, by rw [dir_zero]; rfl, rfl⟩, ?_⟩
       rintro nM vs H ⟨e, hc7_0, rfl, rfl, rfl⟩
       refine ⟨fun h103 => ?_, fun h103 => ?_⟩
       ·replace h103 : (e : Int) < (l.length : Int) := h103
        refine ⟨⟨by show (0 : Int) ≤ (e : Int); omega, by show (e : Int) < (l.length : Int); omega⟩, ⟨rfl, rfl, rfl, Nat.le_of_ble_eq_true rfl⟩, fun h104 => ?_, fun h104 => ?_⟩
        ·replace h104 : ¬ (dirP l q (((abT l).getD q []).getD m 0) e) := h104
         refine ⟨rfl, hp1 _ (getD_mem d0 l q (by omega)), fun h105 => ?_, fun h105 => ?_⟩
         ·replace h105 : (l.getD e d0).1 ∈ (l.getD q d0).2.2.2.1 := h105
          refine ⟨⟨by show (0 : Int) ≤ (e : Int); omega, by show (e : Int) < ((abT l).length : Int); omega⟩, rfl, Nat.le_trans (abT_le (l := l) (i := e) (by omega)) (by omega), ⟨by show (-9223372036854775808 : Int) ≤ ((e : Int) + 1); omega, by show ((e : Int) + 1) ≤ (9223372036854775807 : Int); omega⟩, ?_⟩
          have ed : dirP l q (((abT l).getD q []).getD m 0) (e + 1) = _ := dir_m (by assumption) (by assumption)
          exact ⟨rfl, l.length - (e + 1), by omega, e + 1, by omega, rfl, by rw [ed]; rfl, rfl⟩
         ·replace h105 : ¬ ((l.getD e d0).1 ∈ (l.getD q d0).2.2.2.1) := h105
          refine ⟨⟨by show (-9223372036854775808 : Int) ≤ ((e : Int) + 1); omega, by show ((e : Int) + 1) ≤ (9223372036854775807 : Int); omega⟩, ?_⟩
          have ed : dirP l q (((abT l).getD q []).getD m 0) (e + 1) = _ := dir_f (by assumption) (by assumption)
          exact ⟨rfl, l.length - (e + 1), by omega, e + 1, by omega, rfl, by rw [ed]; rfl, rfl⟩
        ·replace h104 : dirP l q (((abT l).getD q []).getD m 0) e := h104
         refine ⟨⟨by show (-9223372036854775808 : Int) ≤ ((e : Int) + 1); omega, by show ((e : Int) + 1) ≤ (9223372036854775807 : Int); omega⟩, ?_⟩
         have ed : dirP l q (((abT l).getD q []).getD m 0) (e + 1) = _ := dir_t (by assumption)
         exact ⟨rfl, l.length - (e + 1), by omega, e + 1, by omega, rfl, by rw [ed]; rfl, rfl⟩
       ·replace h103 : ¬ ((e : Int) < (l.length : Int)) := h103
        refine ⟨fun h106 => absurd h106 (show ¬ (¬ (dirP l q (((abT l).getD q []).getD m 0) e)) by exact fun h => h (dir_end hc (by omega) (by omega) (by omega))), fun h106 => ?_⟩
        refine ⟨⟨by show (-9223372036854775808 : Int) ≤ ((m : Int) + 1); omega, by show ((m : Int) + 1) ≤ (9223372036854775807 : Int); omega⟩, ⟨by show (-9223372036854775808 : Int) ≤ ((m : Int) + 1); omega, by show ((m : Int) + 1) ≤ (9223372036854775807 : Int); omega⟩, ?_⟩
        exact ⟨rfl, ((abT l).getD q []).length - (m + 1), by omega, m + 1, by omega, rfl, rfl, rfl⟩
      ·replace h102 : ¬ ((m : Int) < ((((abT l).getD q []).length : Nat) : Int)) := h102
       refine ⟨⟨by show (0 : Int) ≤ (q : Int); omega, by show (q : Int) < ((abT l).length : Int); omega⟩, fun h107 => absurd h107 (show ¬ ((m : Int) ≠ ((((abT l).getD q []).length : Nat) : Int)) by omega), fun h107 => ?_⟩
       refine ⟨⟨by show (-9223372036854775808 : Int) ≤ ((q : Int) + 1); omega, by show ((q : Int) + 1) ≤ (9223372036854775807 : Int); omega⟩, ?_⟩
       exact ⟨rfl, l.length - (q + 1), by omega, q + 1, by omega, rfl, rfl, rfl⟩
    ·replace h4 : ¬ ((q : Int) < (l.length : Int)) := h4
     refine ⟨trivial, ?_⟩
     exact ⟨rfl, rfl, congrArg V.b (propext ⟨fun _ => trivial, fun _ => by first | trivial | rfl⟩), rfl⟩
 ·replace h0 : ¬ (fewA l 30) := h0
  refine ⟨trivial, ?_⟩
  exact ⟨rfl, rfl, congrArg V.b (propext ⟨fun _ => trivial, fun _ => by first | trivial | rfl⟩), rfl⟩
end Go.Proofs.Ytgljcfnplkcfhaa.S38

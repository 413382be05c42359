/- Texts of this claim: S38.R4, S38.Qq, S38.L2. -/
import Derived.Test.YtgljcfnplkcfhaaS4
set_option linter.unusedVariables false
set_option linter.unusedSimpArgs false
namespace Go.Proofs.Ytgljcfnplkcfhaa.S38
open Go Go.Proofs.Ytgljcfnplkcfhaa.Vc Go.Proofs
set_option maxRecDepth 100000
set_option linter.unusedVariables false

noncomputable def sRHs : List V → Option (Prop × V × List Blk)
  | [.sl false (.int .i64) s, .int .i64 x] => some (s.length ≤ 1000000000, .b (x ∈ s), [])
  | _ => none
set_option maxHeartbeats 1000000 in
theorem bRHs (s : List Int) (x : Int) (hp0 : s.length ≤ 1000000000) : bodyP (En CRCk tys [] QOfs) Try.f100 [.k] [.sl false (.int .i64) s, .int .i64 x] (.b (x ∈ s)) [] := by
 refine ⟨0, [(0, .k), (1, .k), (5, .k)], fun nM vs H => ∃ (k : Nat), k ≤ s.length ∧ x ∉ s.take k ∧ nM = s.length - k ∧ vs = [.sl false (.int .i64) s, .int .i64 x, .int .i64 (k : Int)] ∧ H = [], ⟨rfl, s.length, 0, by omega, by simp, by omega, rfl, rfl⟩, ?_⟩
 rintro nM vs H ⟨k, hc1_0, hc1_1, rfl, rfl, rfl⟩
 refine ⟨fun h0 => ?_, fun h0 => ?_⟩
 ·replace h0 : (k : Int) < (s.length : Int) := h0
  refine ⟨⟨by show (0 : Int) ≤ (k : Int); omega, by show (k : Int) < (s.length : Int); omega⟩, fun h1 => ?_, fun h1 => ?_⟩
  ·replace h1 : (s.getD k 0) = x := h1
   exact ⟨rfl, rfl, congrArg V.b (propext ⟨fun _ => h1 ▸ getD_mem 0 s k (by omega), fun _ => rfl⟩), rfl⟩
  ·replace h1 : ¬ ((s.getD k 0) = x) := h1
   refine ⟨⟨by show (-9223372036854775808 : Int) ≤ ((k : Int) + 1); omega, by show ((k : Int) + 1) ≤ (9223372036854775807 : Int); omega⟩, ?_⟩
   exact ⟨rfl, s.length - (k + 1), by omega, k + 1, by omega, mem_next (by omega) hc1_1 h1, rfl, rfl, rfl⟩
 ·replace h0 : ¬ ((k : Int) < (s.length : Int)) := h0
  exact ⟨rfl, rfl, congrArg V.b (propext ⟨fun h => Bool.noConfusion h, fun h => absurd (by rw [List.take_of_length_le (by omega)]; exact h) hc1_1⟩), rfl⟩
def CRHs : List (Nat × Con) := (100, pureC [.v (.sl (.int .i64)), .v (.int .i64)] sRHs) :: CRCk
theorem kRHs : Known Try.prog (En CRHs tys [] QOfs) := kRCk.add Try.func100 Try.call100 [.k] fun ds p v bs h hp => by
  unfold sRHs at h
  split at h <;> simp only [Option.some.injEq, Prod.mk.injEq, reduceCtorEq] at h
  obtain ⟨rfl, rfl, rfl⟩ := h
  exact bRHs _ _ hp
noncomputable def sRIo : List V → Option (Prop × V × List Blk)
  | [.sl false (.cons (.int .i64) (.cons (.int .i64) (.cons (.int .i64) (.cons (.sl (.int .i64)) (.cons (.int .i64) (.cons (.int .i64) (.cons (.int .i64) (.cons (.int .i64) (.cons (.int .i64) (.cons (.int .i64) .nil)))))))))) l, .sl false (.int .i64) s] => some (l.length ≤ 1048576 ∧ s.length ≤ 1000000000, .own (.int .i64) 0, [.row true (.int .i64) (inO l s)])
  | _ => none
set_option maxHeartbeats 1000000 in
theorem bRIo (l : List (Int × (Int × (Int × (List Int × (Int × (Int × (Int × (Int × (Int × (Int × Unit))))))))))) (s : List Int) (hp0 : l.length ≤ 1048576) (hp1 : s.length ≤ 1000000000) : bodyP (En CRHs tys [] QOfs) Try.f103 [.o (.int .i64)] [.sl false (.cons (.int .i64) (.cons (.int .i64) (.cons (.int .i64) (.cons (.sl (.int .i64)) (.cons (.int .i64) (.cons (.int .i64) (.cons (.int .i64) (.cons (.int .i64) (.cons (.int .i64) (.cons (.int .i64) .nil)))))))))) l, .sl false (.int .i64) s] (.own (.int .i64) 0) [.row true (.int .i64) (inO l s)] := by
 refine ⟨0, [(0, .k), (1, .k), (5, .o (.int .i64)), (6, .k)], fun nM vs H => ∃ (k : Nat), k ≤ l.length ∧ nM = l.length - k ∧ vs = [.sl false (.cons (.int .i64) (.cons (.int .i64) (.cons (.int .i64) (.cons (.sl (.int .i64)) (.cons (.int .i64) (.cons (.int .i64) (.cons (.int .i64) (.cons (.int .i64) (.cons (.int .i64) (.cons (.int .i64) .nil)))))))))) l, .sl false (.int .i64) s, .own (.int .i64) 0, .int .i64 (k : Int)] ∧ H = [.row true (.int .i64) (inO (l.take k) s)], ⟨rfl, l.length, 0, by omega, by omega, rfl, rfl⟩, ?_⟩
 rintro nM vs H ⟨k, hc1_0, rfl, rfl, rfl⟩
 refine ⟨fun h0 => ?_, fun h0 => ?_⟩
 ·replace h0 : (k : Int) < (l.length : Int) := h0
  have hk : k < l.length := by omega
  have hil := inO_len (l.take k) s
  have htl := tk_len l k
  refine ⟨⟨by show (0 : Int) ≤ (k : Int); omega, by show (k : Int) < (l.length : Int); omega⟩, rfl, by show s.length ≤ 1000000000; first | omega | assumption, fun h1 => ?_, fun h1 => ?_⟩
  ·replace h1 : (l.getD k d0).1 ∈ s := h1
   refine ⟨⟨by show (0 : Int) ≤ (k : Int); omega, by show (k : Int) < (l.length : Int); omega⟩, rfl, ⟨rfl, rfl⟩, by show (inO (l.take k) s).length + ([(l.getD k d0).1] : List Int).length ≤ 1000000000; simp only [List.length_cons, List.length_nil]; omega, ⟨by show (-9223372036854775808 : Int) ≤ ((k : Int) + 1); omega, by show ((k : Int) + 1) ≤ (9223372036854775807 : Int); omega⟩, ?_⟩
   exact ⟨rfl, l.length - (k + 1), by omega, k + 1, by omega, rfl, rfl, by rw [inO_t hk h1]; rfl⟩
  ·replace h1 : ¬ ((l.getD k d0).1 ∈ s) := h1
   refine ⟨⟨by show (-9223372036854775808 : Int) ≤ ((k : Int) + 1); omega, by show ((k : Int) + 1) ≤ (9223372036854775807 : Int); omega⟩, ?_⟩
   exact ⟨rfl, l.length - (k + 1), by omega, k + 1, by omega, rfl, rfl, by rw [inO_f hk h1]; rfl⟩
 ·replace h0 : ¬ ((k : Int) < (l.length : Int)) := h0
  have e : inO l s = inO (l.take k) s := by rw [List.take_of_length_le (by omega)]
  rw [e]
  exact ⟨rfl, rfl, rfl, rfl⟩
def CRIo : List (Nat × Con) := (103, pureC [.v (.sl (.cons (.int .i64) (.cons (.int .i64) (.cons (.int .i64) (.cons (.sl (.int .i64)) (.cons (.int .i64) (.cons (.int .i64) (.cons (.int .i64) (.cons (.int .i64) (.cons (.int .i64) (.cons (.int .i64) .nil))))))))))), .v (.sl (.int .i64))] sRIo) :: CRHs
theorem kRIo : Known Try.prog (En CRIo tys [] QOfs) := kRHs.add Try.func103 Try.call103 [.o (.int .i64)] fun ds p v bs h hp => by
  unfold sRIo at h
  split at h <;> simp only [Option.some.injEq, Prod.mk.injEq, reduceCtorEq] at h
  obtain ⟨rfl, rfl, rfl⟩ := h
  exact bRIo _ _ hp.1 hp.2
noncomputable def sRAs : List V → Option (Prop × V × List Blk)
  | [.sl false (.cons (.int .i64) (.cons (.int .i64) (.cons (.int .i64) (.cons (.sl (.int .i64)) (.cons (.int .i64) (.cons (.int .i64) (.cons (.int .i64) (.cons (.int .i64) (.cons (.int .i64) (.cons (.int .i64) .nil)))))))))) l, .int .i64 o, .int .i64 n, .int .i64 lo, .int .i64 hi] => some (l.length ≤ 1048576 ∧ (∀ a ∈ l, a.2.2.2.1.length ≤ 1048576), .int .i64 (askE l o n lo hi), [])
  | _ => none
set_option maxHeartbeats 1000000 in
theorem bRAs (l : List (Int × (Int × (Int × (List Int × (Int × (Int × (Int × (Int × (Int × (Int × Unit))))))))))) (o : Int) (n : Int) (lo : Int) (hi : Int) (hp0 : l.length ≤ 1048576) (hp1 : (∀ a ∈ l, a.2.2.2.1.length ≤ 1048576)) : bodyP (En CRIo tys [] QOfs) Try.f107 [.k] [.sl false (.cons (.int .i64) (.cons (.int .i64) (.cons (.int .i64) (.cons (.sl (.int .i64)) (.cons (.int .i64) (.cons (.int .i64) (.cons (.int .i64) (.cons (.int .i64) (.cons (.int .i64) (.cons (.int .i64) .nil)))))))))) l, .int .i64 o, .int .i64 n, .int .i64 lo, .int .i64 hi] (.int .i64 (askE l o n lo hi)) [] := by
 refine ⟨⟨by show l.length ≤ 1048576; first | omega | assumption, by first | assumption | simp⟩, fun h0 => ?_, fun h0 => ?_⟩
 ·replace h0 : (chkL l) ≠ 0 := h0
  rw [show askE l o n lo hi = chkL l from if_pos h0]
  exact ⟨rfl, rfl, rfl, rfl⟩
 ·replace h0 : ¬ ((chkL l) ≠ 0) := h0
  refine ⟨fun h1 => ?_, fun h1 => ?_⟩
  ·replace h1 : ¬ (o < 0) := h1
   refine ⟨fun h2 => ?_, fun h2 => ?_⟩
   ·replace h2 : ¬ (1048576 < o) := h2
    refine ⟨fun h3 => ?_, fun h3 => ?_⟩
    ·replace h3 : ¬ (n < lo) := h3
     refine ⟨fun h4 => ?_, fun h4 => ?_⟩
     ·replace h4 : hi < n := h4
      first
      | (rw [show askE l o n lo hi = 3 by unfold askE; rw [if_neg h0, if_pos (by omega)]]; exact ⟨rfl, rfl, rfl, rfl⟩)
      | (rw [show askE l o n lo hi = 0 by unfold askE; rw [if_neg h0, if_neg (by omega)]]; exact ⟨rfl, rfl, rfl, rfl⟩)
     ·replace h4 : ¬ (hi < n) := h4
      first
      | (rw [show askE l o n lo hi = 3 by unfold askE; rw [if_neg h0, if_pos (by omega)]]; exact ⟨rfl, rfl, rfl, rfl⟩)
      | (rw [show askE l o n lo hi = 0 by unfold askE; rw [if_neg h0, if_neg (by omega)]]; exact ⟨rfl, rfl, rfl, rfl⟩)
    ·replace h3 : n < lo := h3
     first
     | (rw [show askE l o n lo hi = 3 by unfold askE; rw [if_neg h0, if_pos (by omega)]]; exact ⟨rfl, rfl, rfl, rfl⟩)
     | (rw [show askE l o n lo hi = 0 by unfold askE; rw [if_neg h0, if_neg (by omega)]]; exact ⟨rfl, rfl, rfl, rfl⟩)
   ·replace h2 : 1048576 < o := h2
    first
    | (rw [show askE l o n lo hi = 3 by unfold askE; rw [if_neg h0, if_pos (by omega)]]; exact ⟨rfl, rfl, rfl, rfl⟩)
    | (rw [show askE l o n lo hi = 0 by unfold askE; rw [if_neg h0, if_neg (by omega)]]; exact ⟨rfl, rfl, rfl, rfl⟩)
  ·replace h1 : o < 0 := h1
   first
   | (rw [show askE l o n lo hi = 3 by unfold askE; rw [if_neg h0, if_pos (by omega)]]; exact ⟨rfl, rfl, rfl, rfl⟩)
   | (rw [show askE l o n lo hi = 0 by unfold askE; rw [if_neg h0, if_neg (by omega)]]; exact ⟨rfl, rfl, rfl, rfl⟩)
def CRAs : List (Nat × Con) := (107, pureC [.v (.sl (.cons (.int .i64) (.cons (.int .i64) (.cons (.int .i64) (.cons (.sl (.int .i64)) (.cons (.int .i64) (.cons (.int .i64) (.cons (.int .i64) (.cons (.int .i64) (.cons (.int .i64) (.cons (.int .i64) .nil))))))))))), .v (.int .i64), .v (.int .i64), .v (.int .i64), .v (.int .i64)] sRAs) :: CRIo
theorem kRAs : Known Try.prog (En CRAs tys [] QOfs) := kRIo.add Try.func107 Try.call107 [.k] fun ds p v bs h hp => by
  unfold sRAs at h
  split at h <;> simp only [Option.some.injEq, Prod.mk.injEq, reduceCtorEq] at h
  obtain ⟨rfl, rfl, rfl⟩ := h
  exact bRAs _ _ _ _ _ hp.1 hp.2
noncomputable def sRAb : List V → Option (Prop × V × List Blk)
  | [.sl false (.cons (.int .i64) (.cons (.int .i64) (.cons (.int .i64) (.cons (.sl (.int .i64)) (.cons (.int .i64) (.cons (.int .i64) (.cons (.int .i64) (.cons (.int .i64) (.cons (.int .i64) (.cons (.int .i64) .nil)))))))))) l, .int .i64 i] => some (l.length ≤ 1048576 ∧ (∀ a ∈ l, a.2.2.2.1.length ≤ 1048576), .agg [.own (.int .i64) 0, .int .i64 (closE l i)], [.row true (.int .i64) (abvL l i)])
  | _ => none
set_option maxHeartbeats 1000000 in
theorem bRAb (l : List (Int × (Int × (Int × (List Int × (Int × (Int × (Int × (Int × (Int × (Int × Unit))))))))))) (i : Int) (hp0 : l.length ≤ 1048576) (hp1 : (∀ a ∈ l, a.2.2.2.1.length ≤ 1048576)) : bodyP (En CRAs tys [] QOfs) Try.f51 [.o (.int .i64), .k] [.sl false (.cons (.int .i64) (.cons (.int .i64) (.cons (.int .i64) (.cons (.sl (.int .i64)) (.cons (.int .i64) (.cons (.int .i64) (.cons (.int .i64) (.cons (.int .i64) (.cons (.int .i64) (.cons (.int .i64) .nil)))))))))) l, .int .i64 i] (.agg [.own (.int .i64) 0, .int .i64 (closE l i)]) [.row true (.int .i64) (abvL l i)] := by
 refine ⟨⟨by show l.length ≤ 1048576; first | omega | assumption, by first | assumption | simp⟩, fun h0 => ?_, fun h0 => ?_⟩
 ·replace h0 : (chkL l) ≠ 0 := h0
  refine ⟨⟨rfl, rfl, rfl, Nat.le_of_ble_eq_true rfl⟩, ?_⟩
  have e1 : closE l i = chkL l := if_pos h0
  have e2 : abvL l i = [] := if_neg (fun g => h0 g.1)
  rw [e1, e2]
  exact ⟨rfl, rfl, rfl, rfl⟩
 ·replace h0 : ¬ ((chkL l) ≠ 0) := h0
  have hc := Classical.not_not.1 h0
  have hl4 := (chk_ok hc).1
  have hF : (findL (l.take ((l.length : Int)).toNat) i) = findL l i := by rw [Int.toNat_natCast, List.take_length]
  refine ⟨rfl, rfl, ⟨by show 0 ≤ (l.length : Int); first | omega | assumption, by show (l.length : Int) ≤ (l.length : Int); first | omega | assumption, by show l.length ≤ 1048576; first | omega | assumption⟩, fun h1 => ?_, fun h1 => ?_⟩
  ·replace h1 : (findL (l.take (l.length : Int).toNat) i) < 0 := h1
   rw [hF] at h1
   refine ⟨⟨rfl, rfl, rfl, Nat.le_of_ble_eq_true rfl⟩, ?_⟩
   have e1 : closE l i = 8 := by unfold closE; rw [if_neg h0, if_pos h1]
   have e2 : abvL l i = [] := if_neg (by omega)
   rw [e1, e2]
   exact ⟨rfl, rfl, rfl, rfl⟩
  ·replace h1 : ¬ ((findL (l.take (l.length : Int).toNat) i) < 0) := h1
   rw [hF] at h1
   have hfl := findL_lt l i (by omega)
   have hof := hp1 _ (getD_mem d0 l (findL (l.take ((l.length : Int)).toNat) i).toNat (by omega))
   refine ⟨⟨by show (0 : Int) ≤ findL (l.take (l.length : Int).toNat) i; omega, by show findL (l.take (l.length : Int).toNat) i < (l.length : Int); omega⟩, ⟨rfl, rfl⟩, by show ([] : List Int).length + (l.getD ((findL (l.take (l.length : Int).toNat) i).toNat) d0).2.2.2.1.length ≤ 1000000000; simp only [List.length_cons, List.length_nil]; omega, ⟨by show (-9223372036854775808 : Int) ≤ ((findL (l.take (l.length : Int).toNat) i) - 1); omega, by show ((findL (l.take (l.length : Int).toNat) i) - 1) ≤ (9223372036854775807 : Int); omega⟩, 1, [(0, .k), (4, .k), (7, .o (.int .i64)), (8, .k)], fun nM vs H => ∃ (k : Nat) (rs : List Int), k ≤ (findL (l.take ((l.length : Int)).toNat) i).toNat ∧ abvR l k rs = abvR l (findL (l.take ((l.length : Int)).toNat) i).toNat (l.getD (findL (l.take ((l.length : Int)).toNat) i).toNat d0).2.2.2.1 ∧ rs.length + k * 1048576 ≤ 420478976 ∧ nM = k + 1 ∧ vs = [.sl false (.cons (.int .i64) (.cons (.int .i64) (.cons (.int .i64) (.cons (.sl (.int .i64)) (.cons (.int .i64) (.cons (.int .i64) (.cons (.int .i64) (.cons (.int .i64) (.cons (.int .i64) (.cons (.int .i64) .nil)))))))))) l, .ptr 0 1 0 0, .own (.int .i64) 1, .int .i64 ((k : Int) - 1)] ∧ H = [.cells [.nils, .int .i64 0], .row true (.int .i64) rs], ⟨rfl, (findL (l.take ((l.length : Int)).toNat) i).toNat + 1, (findL (l.take ((l.length : Int)).toNat) i).toNat, (l.getD (findL (l.take ((l.length : Int)).toNat) i).toNat d0).2.2.2.1, by omega, rfl, by omega, rfl, by rw [show (((findL (l.take ((l.length : Int)).toNat) i).toNat : Nat) : Int) - 1 = (findL (l.take ((l.length : Int)).toNat) i) - 1 by omega]; rfl, rfl⟩, ?_⟩
   rintro nM vs H ⟨k, rs, hc1_0, hc1_1, hc1_2, rfl, rfl, rfl⟩
   refine ⟨fun h2 => ?_, fun h2 => ?_⟩
   ·replace h2 : 0 ≤ ((k : Int) - 1) := h2
    have hk : 0 < k := by omega
    have eK : ((k : Int) - 1).toNat = k - 1 := by omega
    have hok := hp1 _ (getD_mem d0 l (k - 1) (by omega))
    have hok2 : (l.getD (((k : Int) - 1).toNat) d0).2.2.2.1.length ≤ 1048576 := by rw [eK]; exact hok
    have hst := abv_step (l := l) (rs := rs) hk
    refine ⟨⟨by show (0 : Int) ≤ ((k : Int) - 1); omega, by show ((k : Int) - 1) < (l.length : Int); omega⟩, rfl, by show rs.length ≤ 1000000000; first | omega | assumption, fun h3 => ?_, fun h3 => ?_⟩
    ·replace h3 : (l.getD (((k : Int) - 1).toNat) d0).1 ∈ rs := h3
     rw [eK] at h3
     rw [if_pos h3] at hst
     refine ⟨⟨by show (0 : Int) ≤ ((k : Int) - 1); omega, by show ((k : Int) - 1) < (l.length : Int); omega⟩, ⟨rfl, rfl⟩, by show rs.length + (l.getD (((k : Int) - 1).toNat) d0).2.2.2.1.length ≤ 1000000000; omega, ⟨by show (-9223372036854775808 : Int) ≤ (((k : Int) - 1) - 1); omega, by show (((k : Int) - 1) - 1) ≤ (9223372036854775807 : Int); omega⟩, ?_⟩
     refine ⟨rfl, k - 1 + 1, by omega, k - 1, _, by omega, ?_, ?_, rfl, by rw [show (((k - 1 : Nat) : Int) - 1) = ((k : Int) - 1) - 1 by omega]; rfl, rfl⟩
     · rw [eK]; exact hst.symm.trans hc1_1
     · refine Nat.le_trans (Nat.le_of_eq (?_ : _ = rs.length + (l.getD (k - 1) d0).2.2.2.1.length + (k - 1) * 1048576)) (by omega)
       rw [eK, List.length_append]; rfl
    ·replace h3 : ¬ ((l.getD (((k : Int) - 1).toNat) d0).1 ∈ rs) := h3
     rw [eK] at h3
     rw [if_neg h3] at hst
     refine ⟨⟨by show (-9223372036854775808 : Int) ≤ (((k : Int) - 1) - 1); omega, by show (((k : Int) - 1) - 1) ≤ (9223372036854775807 : Int); omega⟩, ?_⟩
     refine ⟨rfl, k - 1 + 1, by omega, k - 1, _, by omega, ?_, ?_, rfl, by rw [show (((k - 1 : Nat) : Int) - 1) = ((k : Int) - 1) - 1 by omega]; rfl, rfl⟩
     · exact hst.symm.trans hc1_1
     · exact Nat.le_trans (Nat.add_le_add_left (Nat.mul_le_mul_right _ (Nat.sub_le k 1)) _) hc1_2
   ·replace h2 : ¬ (0 ≤ ((k : Int) - 1)) := h2
    refine ⟨⟨by show l.length ≤ 1048576; first | omega | assumption, by show rs.length ≤ 1000000000; first | omega | assumption⟩, ⟨rfl, rfl, rfl, Nat.le_of_ble_eq_true rfl⟩, ?_⟩
    have e1 : closE l i = 0 := by unfold closE; rw [if_neg h0, if_neg h1]
    have hk0 : k = 0 := by omega
    have e2 : abvL l i = inO l rs := by unfold abvL; rw [if_pos ⟨hc, by omega⟩, ← hF, ← hc1_1, hk0]; rfl
    rw [e1, e2]
    exact ⟨rfl, rfl, rfl, rfl⟩
def CRAb : List (Nat × Con) := (51, pureC [.v (.sl (.cons (.int .i64) (.cons (.int .i64) (.cons (.int .i64) (.cons (.sl (.int .i64)) (.cons (.int .i64) (.cons (.int .i64) (.cons (.int .i64) (.cons (.int .i64) (.cons (.int .i64) (.cons (.int .i64) .nil))))))))))), .v (.int .i64)] sRAb) :: CRAs
theorem kRAb : Known Try.prog (En CRAb tys [] QOfs) := kRAs.add Try.func51 Try.call51 [.o (.int .i64), .k] fun ds p v bs h hp => by
  unfold sRAb at h
  split at h <;> simp only [Option.some.injEq, Prod.mk.injEq, reduceCtorEq] at h
  obtain ⟨rfl, rfl, rfl⟩ := h
  exact bRAb _ _ hp.1 hp.2
noncomputable def sRBl : List V → Option (Prop × V × List Blk)
  | [.sl false (.cons (.int .i64) (.cons (.int .i64) (.cons (.int .i64) (.cons (.sl (.int .i64)) (.cons (.int .i64) (.cons (.int .i64) (.cons (.int .i64) (.cons (.int .i64) (.cons (.int .i64) (.cons (.int .i64) .nil)))))))))) l, .int .i64 i] => some (l.length ≤ 1048576 ∧ (∀ a ∈ l, a.2.2.2.1.length ≤ 1048576), .agg [.own (.int .i64) 0, .int .i64 (closE l i)], [.row true (.int .i64) (blwL l i)])
  | _ => none
set_option maxHeartbeats 1000000 in
theorem bRBl (l : List (Int × (Int × (Int × (List Int × (Int × (Int × (Int × (Int × (Int × (Int × Unit))))))))))) (i : Int) (hp0 : l.length ≤ 1048576) (hp1 : (∀ a ∈ l, a.2.2.2.1.length ≤ 1048576)) : bodyP (En CRAb tys [] QOfs) Try.f53 [.o (.int .i64), .k] [.sl false (.cons (.int .i64) (.cons (.int .i64) (.cons (.int .i64) (.cons (.sl (.int .i64)) (.cons (.int .i64) (.cons (.int .i64) (.cons (.int .i64) (.cons (.int .i64) (.cons (.int .i64) (.cons (.int .i64) .nil)))))))))) l, .int .i64 i] (.agg [.own (.int .i64) 0, .int .i64 (closE l i)]) [.row true (.int .i64) (blwL l i)] := by
 refine ⟨⟨by show l.length ≤ 1048576; first | omega | assumption, by first | assumption | simp⟩, fun h0 => ?_, fun h0 => ?_⟩
 ·replace h0 : (chkL l) ≠ 0 := h0
  refine ⟨⟨rfl, rfl, rfl, Nat.le_of_ble_eq_true rfl⟩, ?_⟩
  have e1 : closE l i = chkL l := if_pos h0
  have e2 : blwL l i = [] := if_neg (fun g => h0 g.1)
  rw [e1, e2]
  exact ⟨rfl, rfl, rfl, rfl⟩
 ·replace h0 : ¬ ((chkL l) ≠ 0) := h0
  have hc := Classical.not_not.1 h0
  have hl4 := (chk_ok hc).1
  have hF : (findL (l.take ((l.length : Int)).toNat) i) = findL l i := by rw [Int.toNat_natCast, List.take_length]
  refine ⟨rfl, rfl, ⟨by show 0 ≤ (l.length : Int); first | omega | assumption, by show (l.length : Int) ≤ (l.length : Int); first | omega | assumption, by show l.length ≤ 1048576; first | omega | assumption⟩, fun h1 => ?_, fun h1 => ?_⟩
  ·replace h1 : (findL (l.take (l.length : Int).toNat) i) < 0 := h1
   rw [hF] at h1
   refine ⟨⟨rfl, rfl, rfl, Nat.le_of_ble_eq_true rfl⟩, ?_⟩
   have e1 : closE l i = 8 := by unfold closE; rw [if_neg h0, if_pos h1]
   have e2 : blwL l i = [] := if_neg (by omega)
   rw [e1, e2]
   exact ⟨rfl, rfl, rfl, rfl⟩
  ·replace h1 : ¬ ((findL (l.take (l.length : Int).toNat) i) < 0) := h1
   rw [hF] at h1
   have hfl := findL_lt l i (by omega)
   have hof := hp1 _ (getD_mem d0 l (findL (l.take ((l.length : Int)).toNat) i).toNat (by omega))
   refine ⟨rfl, ⟨by show (-9223372036854775808 : Int) ≤ ((findL (l.take (l.length : Int).toNat) i) + 1); omega, by show ((findL (l.take (l.length : Int).toNat) i) + 1) ≤ (9223372036854775807 : Int); omega⟩, 1, [(0, .k), (4, .k), (7, .o (.int .i64)), (8, .k)], fun nM vs H => ∃ (k : Nat), (findL (l.take ((l.length : Int)).toNat) i).toNat + 1 ≤ k ∧ k ≤ l.length ∧ nM = l.length - k ∧ vs = [.sl false (.cons (.int .i64) (.cons (.int .i64) (.cons (.int .i64) (.cons (.sl (.int .i64)) (.cons (.int .i64) (.cons (.int .i64) (.cons (.int .i64) (.cons (.int .i64) (.cons (.int .i64) (.cons (.int .i64) .nil)))))))))) l, .ptr 0 1 0 0, .own (.int .i64) 1, .int .i64 (k : Int)] ∧ H = [.cells [.nils, .int .i64 0], .row true (.int .i64) (i :: blwR l (findL (l.take ((l.length : Int)).toNat) i).toNat i k)], ⟨rfl, l.length - ((findL (l.take ((l.length : Int)).toNat) i).toNat + 1), (findL (l.take ((l.length : Int)).toNat) i).toNat + 1, by omega, by omega, by omega, by rw [show (((findL (l.take ((l.length : Int)).toNat) i).toNat + 1 : Nat) : Int) = (findL (l.take ((l.length : Int)).toNat) i) + 1 by omega]; rfl, by rw [blw_start (Nat.le_refl _)]; rfl⟩, ?_⟩
   rintro nM vs H ⟨k, hc1_0, hc1_1, rfl, rfl, rfl⟩
   refine ⟨fun h2 => ?_, fun h2 => ?_⟩
   ·replace h2 : (k : Int) < (l.length : Int) := h2
    have hk : k < l.length := by omega
    have hok := hp1 _ (getD_mem d0 l k hk)
    have hbl := blw_len l (findL (l.take ((l.length : Int)).toNat) i).toNat i k
    have hrl : (i :: blwR l (findL (l.take ((l.length : Int)).toNat) i).toNat i k).length = (blwR l (findL (l.take ((l.length : Int)).toNat) i).toNat i k).length + 1 := rfl
    refine ⟨1, [(0, .k), (4, .k), (7, .o (.int .i64)), (8, .k), (9, .k), (10, .k)], fun nM vs H => ∃ (j : Nat), j ≤ (l.getD k d0).2.2.2.1.length ∧ nM = (l.getD k d0).2.2.2.1.length - j ∧ vs = [.sl false (.cons (.int .i64) (.cons (.int .i64) (.cons (.int .i64) (.cons (.sl (.int .i64)) (.cons (.int .i64) (.cons (.int .i64) (.cons (.int .i64) (.cons (.int .i64) (.cons (.int .i64) (.cons (.int .i64) .nil)))))))))) l, .ptr 0 1 0 0, .own (.int .i64) 1, .int .i64 (k : Int), .b (inB (l.getD k d0).2.2.2.1 (i :: blwR l (findL (l.take ((l.length : Int)).toNat) i).toNat i k) j = true), .int .i64 (j : Int)] ∧ H = [.cells [.nils, .int .i64 0], .row true (.int .i64) (i :: blwR l (findL (l.take ((l.length : Int)).toNat) i).toNat i k)], ⟨rfl, (l.getD k d0).2.2.2.1.length, 0, by omega, by omega, rfl, rfl⟩, ?_⟩
    rintro nM vs H ⟨j, hc2_0, rfl, rfl, rfl⟩
    refine ⟨⟨by show (0 : Int) ≤ (k : Int); omega, by show (k : Int) < (l.length : Int); omega⟩, fun h3 => ?_, fun h3 => ?_⟩
    ·replace h3 : (j : Int) < (((l.getD k d0).2.2.2.1.length : Nat) : Int) := h3
     have hj : j < (l.getD k d0).2.2.2.1.length := by omega
     refine ⟨⟨by show (0 : Int) ≤ (k : Int); omega, by show (k : Int) < (l.length : Int); omega⟩, ⟨by show (0 : Int) ≤ (j : Int); omega, by show (j : Int) < ((l.getD k d0).2.2.2.1.length : Int); omega⟩, rfl, by show (i :: blwR l (findL (l.take ((l.length : Int)).toNat) i).toNat i k).length ≤ 1000000000; first | omega | assumption | (simp only [List.length_cons, List.length_nil, List.length_append, List.length_take, List.length_drop, List.length_set, List.length_replicate]; omega), fun h4 => ?_, fun h4 => ?_⟩
     ·replace h4 : ¬ (inB (l.getD k d0).2.2.2.1 (i :: blwR l (findL (l.take ((l.length : Int)).toNat) i).toNat i k) j = true) := h4
      refine ⟨⟨by show (-9223372036854775808 : Int) ≤ ((j : Int) + 1); omega, by show ((j : Int) + 1) ≤ (9223372036854775807 : Int); omega⟩, ?_⟩
      have e : (inB (l.getD k d0).2.2.2.1 (i :: blwR l (findL (l.take ((l.length : Int)).toNat) i).toNat i k) (j + 1) = true) = ((l.getD k d0).2.2.2.1.getD j 0 ∈ (i :: blwR l (findL (l.take ((l.length : Int)).toNat) i).toNat i k)) := by rw [inB_next hj, bF h4, Bool.false_or]; exact propext decide_eq_true_iff
      exact ⟨rfl, (l.getD k d0).2.2.2.1.length - (j + 1), by omega, j + 1, by omega, rfl, by rw [e]; rfl, rfl⟩
     ·replace h4 : inB (l.getD k d0).2.2.2.1 (i :: blwR l (findL (l.take ((l.length : Int)).toNat) i).toNat i k) j = true := h4
      refine ⟨⟨by show (-9223372036854775808 : Int) ≤ ((j : Int) + 1); omega, by show ((j : Int) + 1) ≤ (9223372036854775807 : Int); omega⟩, ?_⟩
      have e : inB (l.getD k d0).2.2.2.1 (i :: blwR l (findL (l.take ((l.length : Int)).toNat) i).toNat i k) (j + 1) = true := by rw [inB_next hj, h4]; rfl
      exact ⟨rfl, (l.getD k d0).2.2.2.1.length - (j + 1), by omega, j + 1, by omega, rfl, by rw [e]; rfl, rfl⟩
    ·replace h3 : ¬ ((j : Int) < (((l.getD k d0).2.2.2.1.length : Nat) : Int)) := h3
     refine ⟨fun h5 => ?_, fun h5 => ?_⟩
     ·replace h5 : inB (l.getD k d0).2.2.2.1 (i :: blwR l (findL (l.take ((l.length : Int)).toNat) i).toNat i k) j = true := h5
      refine ⟨⟨by show (0 : Int) ≤ (k : Int); omega, by show (k : Int) < (l.length : Int); omega⟩, rfl, ⟨rfl, rfl⟩, by show (i :: blwR l (findL (l.take ((l.length : Int)).toNat) i).toNat i k).length + ([(l.getD k d0).1] : List Int).length ≤ 1000000000; simp only [List.length_cons, List.length_nil]; omega, ⟨by show (-9223372036854775808 : Int) ≤ ((k : Int) + 1); omega, by show ((k : Int) + 1) ≤ (9223372036854775807 : Int); omega⟩, ?_⟩
      exact ⟨rfl, l.length - (k + 1), by omega, k + 1, by omega, by omega, rfl, rfl, by rw [blw_t (by omega) (by omega) h5]; rfl⟩
     ·replace h5 : ¬ (inB (l.getD k d0).2.2.2.1 (i :: blwR l (findL (l.take ((l.length : Int)).toNat) i).toNat i k) j = true) := h5
      refine ⟨⟨by show (-9223372036854775808 : Int) ≤ ((k : Int) + 1); omega, by show ((k : Int) + 1) ≤ (9223372036854775807 : Int); omega⟩, ?_⟩
      exact ⟨rfl, l.length - (k + 1), by omega, k + 1, by omega, by omega, rfl, rfl, by rw [blw_f (by omega) h5]; rfl⟩
   ·replace h2 : ¬ ((k : Int) < (l.length : Int)) := h2
    have hbl := blw_len l (findL (l.take ((l.length : Int)).toNat) i).toNat i k
    have hrl : (i :: blwR l (findL (l.take ((l.length : Int)).toNat) i).toNat i k).length = (blwR l (findL (l.take ((l.length : Int)).toNat) i).toNat i k).length + 1 := rfl
    refine ⟨⟨by omega, by omega⟩, ⟨by show l.length ≤ 1048576; first | omega | assumption, by show (((i :: blwR l (findL (l.take ((l.length : Int)).toNat) i).toNat i k).drop 1).take ((i :: blwR l (findL (l.take ((l.length : Int)).toNat) i).toNat i k).length - 1)).length ≤ 1000000000; first | omega | assumption | (simp only [List.length_cons, List.length_nil, List.length_append, List.length_take, List.length_drop, List.length_set, List.length_replicate]; omega)⟩, ⟨rfl, rfl, rfl, Nat.le_of_ble_eq_true rfl⟩, ?_⟩
    have e1 : closE l i = 0 := by unfold closE; rw [if_neg h0, if_neg h1]
    have e2 : blwL l i = inO l (((i :: blwR l (findL (l.take ((l.length : Int)).toNat) i).toNat i k).drop 1).take ((i :: blwR l (findL (l.take ((l.length : Int)).toNat) i).toNat i k).length - 1)) := by rw [cut_one]; unfold blwL; rw [if_pos ⟨hc, by omega⟩, ← hF, show k = l.length by omega]
    rw [e1, e2]
    exact ⟨rfl, rfl, rfl, rfl⟩
def CRBl : List (Nat × Con) := (53, pureC [.v (.sl (.cons (.int .i64) (.cons (.int .i64) (.cons (.int .i64) (.cons (.sl (.int .i64)) (.cons (.int .i64) (.cons (.int .i64) (.cons (.int .i64) (.cons (.int .i64) (.cons (.int .i64) (.cons (.int .i64) .nil))))))))))), .v (.int .i64)] sRBl) :: CRAb
theorem kRBl : Known Try.prog (En CRBl tys [] QOfs) := kRAb.add Try.func53 Try.call53 [.o (.int .i64), .k] fun ds p v bs h hp => by
  unfold sRBl at h
  split at h <;> simp only [Option.some.injEq, Prod.mk.injEq, reduceCtorEq] at h
  obtain ⟨rfl, rfl, rfl⟩ := h
  exact bRBl _ _ hp.1 hp.2
noncomputable def sRAd : List V → Option (Prop × V × List Blk)
  | [.sl false (.cons (.int .i64) (.cons (.int .i64) (.cons (.int .i64) (.cons (.sl (.int .i64)) (.cons (.int .i64) (.cons (.int .i64) (.cons (.int .i64) (.cons (.int .i64) (.cons (.int .i64) (.cons (.int .i64) .nil)))))))))) l, .agg [.int .i64 id, .int .i64 kd, .int .i64 ob, .sl false (.int .i64) of, .int .i64 ho, .int .i64 di, .int .i64 bo, .int .i64 go, .int .i64 hr, .int .i64 pe]] => some (l.length ≤ 1048576 ∧ (∀ a ∈ l, a.2.2.2.1.length ≤ 1048576) ∧ of.length ≤ 1048576, .agg [.own (.cons (.int .i64) (.cons (.int .i64) (.cons (.int .i64) (.cons (.sl (.int .i64)) (.cons (.int .i64) (.cons (.int .i64) (.cons (.int .i64) (.cons (.int .i64) (.cons (.int .i64) (.cons (.int .i64) .nil)))))))))) 0, .int .i64 (addE l (id, (kd, (ob, (of, (ho, (di, (bo, (go, (hr, (pe, ())))))))))))], [.row false (.cons (.int .i64) (.cons (.int .i64) (.cons (.int .i64) (.cons (.sl (.int .i64)) (.cons (.int .i64) (.cons (.int .i64) (.cons (.int .i64) (.cons (.int .i64) (.cons (.int .i64) (.cons (.int .i64) .nil)))))))))) (addL l (id, (kd, (ob, (of, (ho, (di, (bo, (go, (hr, (pe, ())))))))))))])
  | _ => none
set_option maxHeartbeats 1000000 in
theorem bRAd (l : List (Int × (Int × (Int × (List Int × (Int × (Int × (Int × (Int × (Int × (Int × Unit))))))))))) (id : Int) (kd : Int) (ob : Int) (of : List Int) (ho : Int) (di : Int) (bo : Int) (go : Int) (hr : Int) (pe : Int) (hp0 : l.length ≤ 1048576) (hp1 : (∀ a ∈ l, a.2.2.2.1.length ≤ 1048576)) (hp2 : of.length ≤ 1048576) : bodyI (En CRBl tys [] QOfs) Try.f47 [.w (.cons (.int .i64) (.cons (.int .i64) (.cons (.int .i64) (.cons (.sl (.int .i64)) (.cons (.int .i64) (.cons (.int .i64) (.cons (.int .i64) (.cons (.int .i64) (.cons (.int .i64) (.cons (.int .i64) .nil)))))))))), .k] [.sl false (.cons (.int .i64) (.cons (.int .i64) (.cons (.int .i64) (.cons (.sl (.int .i64)) (.cons (.int .i64) (.cons (.int .i64) (.cons (.int .i64) (.cons (.int .i64) (.cons (.int .i64) (.cons (.int .i64) .nil)))))))))) l, .agg [.int .i64 id, .int .i64 kd, .int .i64 ob, .sl false (.int .i64) of, .int .i64 ho, .int .i64 di, .int .i64 bo, .int .i64 go, .int .i64 hr, .int .i64 pe]] (.agg [.own (.cons (.int .i64) (.cons (.int .i64) (.cons (.int .i64) (.cons (.sl (.int .i64)) (.cons (.int .i64) (.cons (.int .i64) (.cons (.int .i64) (.cons (.int .i64) (.cons (.int .i64) (.cons (.int .i64) .nil)))))))))) 0, .int .i64 (addE l (id, (kd, (ob, (of, (ho, (di, (bo, (go, (hr, (pe, ())))))))))))]) [.row false (.cons (.int .i64) (.cons (.int .i64) (.cons (.int .i64) (.cons (.sl (.int .i64)) (.cons (.int .i64) (.cons (.int .i64) (.cons (.int .i64) (.cons (.int .i64) (.cons (.int .i64) (.cons (.int .i64) .nil)))))))))) (addL l (id, (kd, (ob, (of, (ho, (di, (bo, (go, (hr, (pe, ())))))))))))] := by
 refine ⟨⟨by show l.length ≤ 1048576; first | omega | assumption, by first | assumption | simp⟩, fun h0 => ?_, fun h0 => ?_⟩
 ·replace h0 : (chkL l) ≠ 0 := h0
  refine ⟨⟨rfl, rfl, rfl, Nat.le_of_ble_eq_true rfl⟩, ?_⟩
  have e1 : addE l (id, (kd, (ob, (of, (ho, (di, (bo, (go, (hr, (pe, ())))))))))) = chkL l := if_pos h0
  have e2 := add_err (show addE l (id, (kd, (ob, (of, (ho, (di, (bo, (go, (hr, (pe, ())))))))))) ≠ 0 by rw [e1]; exact h0)
  rw [e1, e2]
  exact ⟨rfl, rfl, rfl, rfl⟩
 ·replace h0 : ¬ ((chkL l) ≠ 0) := h0
  have hc := Classical.not_not.1 h0
  have hl4 := (chk_ok hc).1
  have hnl : (([] : List (Int × (Int × (Int × (List Int × (Int × (Int × (Int × (Int × (Int × (Int × Unit))))))))))) ++ l).length = l.length := rfl
  refine ⟨by kernel_rfl, ⟨rfl, rfl⟩, by show ([] : List (Int × (Int × (Int × (List Int × (Int × (Int × (Int × (Int × (Int × (Int × Unit))))))))))).length + l.length ≤ 1000000000; simp only [List.length_cons, List.length_nil]; omega, rfl, rfl, rfl, rfl, rfl, rfl, rfl, rfl, rfl, ⟨rfl, rfl⟩, by show (([] : List (Int × (Int × (Int × (List Int × (Int × (Int × (Int × (Int × (Int × (Int × Unit))))))))))) ++ l).length + ([(id, kd, ob, of, ho, di, bo, go, hr, pe, ())] : List (Int × (Int × (Int × (List Int × (Int × (Int × (Int × (Int × (Int × (Int × Unit))))))))))).length ≤ 1000000000; simp only [List.length_cons, List.length_nil]; omega, ⟨by show ((([] : List (Int × (Int × (Int × (List Int × (Int × (Int × (Int × (Int × (Int × (Int × Unit))))))))))) ++ l) ++ ([(id, kd, ob, of, ho, di, bo, go, hr, pe, ())] : List (Int × (Int × (Int × (List Int × (Int × (Int × (Int × (Int × (Int × (Int × Unit)))))))))))).length ≤ 1048576; first | omega | assumption | (simp only [List.length_cons, List.length_nil, List.length_append, List.length_take, List.length_drop, List.length_set, List.length_replicate]; omega), by intro a ha; rcases List.mem_append.1 ha with g | g; exact hp1 a g; rw [List.mem_singleton.1 g]; exact hp2⟩, fun h1 => ?_, fun h1 => ?_⟩
  ·replace h1 : (chkL ((([] : List (Int × (Int × (Int × (List Int × (Int × (Int × (Int × (Int × (Int × (Int × Unit))))))))))) ++ l) ++ ([(id, kd, ob, of, ho, di, bo, go, hr, pe, ())] : List (Int × (Int × (Int × (List Int × (Int × (Int × (Int × (Int × (Int × (Int × Unit))))))))))))) ≠ 0 := h1
   refine ⟨⟨rfl, rfl, rfl, Nat.le_of_ble_eq_true rfl⟩, ?_⟩
   have e1 : addE l (id, (kd, (ob, (of, (ho, (di, (bo, (go, (hr, (pe, ())))))))))) = chkL (l ++ [(id, (kd, (ob, (of, (ho, (di, (bo, (go, (hr, (pe, ()))))))))))]) := if_neg h0
   have e2 := add_err (show addE l (id, (kd, (ob, (of, (ho, (di, (bo, (go, (hr, (pe, ())))))))))) ≠ 0 by rw [e1]; exact h1)
   rw [e1, e2]
   exact ⟨rfl, rfl, rfl, rfl⟩
  ·replace h1 : ¬ ((chkL ((([] : List (Int × (Int × (Int × (List Int × (Int × (Int × (Int × (Int × (Int × (Int × Unit))))))))))) ++ l) ++ ([(id, kd, ob, of, ho, di, bo, go, hr, pe, ())] : List (Int × (Int × (Int × (List Int × (Int × (Int × (Int × (Int × (Int × (Int × Unit))))))))))))) ≠ 0) := h1
   refine ⟨⟨rfl, rfl, rfl, Nat.le_of_ble_eq_true rfl⟩, ?_⟩
   have e1 : addE l (id, (kd, (ob, (of, (ho, (di, (bo, (go, (hr, (pe, ())))))))))) = 0 := (if_neg h0).trans (Classical.not_not.1 h1)
   have e2 := add_yes e1
   rw [e1, e2]
   exact ⟨rfl, rfl, rfl, rfl⟩
def CRAd : List (Nat × Con) := (47, immC [.v (.sl (.cons (.int .i64) (.cons (.int .i64) (.cons (.int .i64) (.cons (.sl (.int .i64)) (.cons (.int .i64) (.cons (.int .i64) (.cons (.int .i64) (.cons (.int .i64) (.cons (.int .i64) (.cons (.int .i64) .nil))))))))))), .v (.cons (.int .i64) (.cons (.int .i64) (.cons (.int .i64) (.cons (.sl (.int .i64)) (.cons (.int .i64) (.cons (.int .i64) (.cons (.int .i64) (.cons (.int .i64) (.cons (.int .i64) (.cons (.int .i64) .nil))))))))))] sRAd) :: CRBl
theorem kRAd : Known Try.prog (En CRAd tys [] QOfs) := kRBl.addI Try.func47 Try.call47 [.w (.cons (.int .i64) (.cons (.int .i64) (.cons (.int .i64) (.cons (.sl (.int .i64)) (.cons (.int .i64) (.cons (.int .i64) (.cons (.int .i64) (.cons (.int .i64) (.cons (.int .i64) (.cons (.int .i64) .nil)))))))))), .k] fun ds p v bs h hp => by
  unfold sRAd at h
  split at h <;> simp only [Option.some.injEq, Prod.mk.injEq, reduceCtorEq] at h
  obtain ⟨rfl, rfl, rfl⟩ := h
  exact bRAd _ _ _ _ _ _ _ _ _ _ _ hp.1 hp.2.1 hp.2.2
noncomputable def sREn : List V → Option (Prop × V × List Blk)
  | [.sl false (.cons (.int .i64) (.cons (.int .i64) (.cons (.int .i64) (.cons (.sl (.int .i64)) (.cons (.int .i64) (.cons (.int .i64) (.cons (.int .i64) (.cons (.int .i64) (.cons (.int .i64) (.cons (.int .i64) .nil)))))))))) l, .int .i64 i, .int .i64 t] => some (l.length ≤ 1048576 ∧ (∀ a ∈ l, a.2.2.2.1.length ≤ 1048576), .agg [.own (.cons (.int .i64) (.cons (.int .i64) (.cons (.int .i64) (.cons (.sl (.int .i64)) (.cons (.int .i64) (.cons (.int .i64) (.cons (.int .i64) (.cons (.int .i64) (.cons (.int .i64) (.cons (.int .i64) .nil)))))))))) 0, .int .i64 (endE l i t)], [.row false (.cons (.int .i64) (.cons (.int .i64) (.cons (.int .i64) (.cons (.sl (.int .i64)) (.cons (.int .i64) (.cons (.int .i64) (.cons (.int .i64) (.cons (.int .i64) (.cons (.int .i64) (.cons (.int .i64) .nil)))))))))) (endL l i t)])
  | _ => none
set_option maxHeartbeats 1000000 in
theorem bREn (l : List (Int × (Int × (Int × (List Int × (Int × (Int × (Int × (Int × (Int × (Int × Unit))))))))))) (i : Int) (t : Int) (hp0 : l.length ≤ 1048576) (hp1 : (∀ a ∈ l, a.2.2.2.1.length ≤ 1048576)) : bodyI (En CRAd tys [] QOfs) Try.f49 [.w (.cons (.int .i64) (.cons (.int .i64) (.cons (.int .i64) (.cons (.sl (.int .i64)) (.cons (.int .i64) (.cons (.int .i64) (.cons (.int .i64) (.cons (.int .i64) (.cons (.int .i64) (.cons (.int .i64) .nil)))))))))), .k] [.sl false (.cons (.int .i64) (.cons (.int .i64) (.cons (.int .i64) (.cons (.sl (.int .i64)) (.cons (.int .i64) (.cons (.int .i64) (.cons (.int .i64) (.cons (.int .i64) (.cons (.int .i64) (.cons (.int .i64) .nil)))))))))) l, .int .i64 i, .int .i64 t] (.agg [.own (.cons (.int .i64) (.cons (.int .i64) (.cons (.int .i64) (.cons (.sl (.int .i64)) (.cons (.int .i64) (.cons (.int .i64) (.cons (.int .i64) (.cons (.int .i64) (.cons (.int .i64) (.cons (.int .i64) .nil)))))))))) 0, .int .i64 (endE l i t)]) [.row false (.cons (.int .i64) (.cons (.int .i64) (.cons (.int .i64) (.cons (.sl (.int .i64)) (.cons (.int .i64) (.cons (.int .i64) (.cons (.int .i64) (.cons (.int .i64) (.cons (.int .i64) (.cons (.int .i64) .nil)))))))))) (endL l i t)] := by
 refine ⟨⟨by show l.length ≤ 1048576; first | omega | assumption, by first | assumption | simp⟩, fun h0 => ?_, fun h0 => ?_⟩
 ·replace h0 : (chkL l) ≠ 0 := h0
  refine ⟨⟨rfl, rfl, rfl, Nat.le_of_ble_eq_true rfl⟩, ?_⟩
  have e1 : endE l i t = chkL l := if_pos h0
  have e2 := end_err (show endE l i t ≠ 0 by rw [e1]; exact h0)
  rw [e1, e2]
  exact ⟨rfl, rfl, rfl, rfl⟩
 ·replace h0 : ¬ ((chkL l) ≠ 0) := h0
  have hc := Classical.not_not.1 h0
  have hl4 := (chk_ok hc).1
  have hF : (findL (l.take ((l.length : Int)).toNat) i) = findL l i := by rw [Int.toNat_natCast, List.take_length]
  refine ⟨rfl, rfl, ⟨by show 0 ≤ (l.length : Int); first | omega | assumption, by show (l.length : Int) ≤ (l.length : Int); first | omega | assumption, by show l.length ≤ 1048576; first | omega | assumption⟩, fun h1 => ?_, fun h1 => ?_⟩
  ·replace h1 : (findL (l.take (l.length : Int).toNat) i) < 0 := h1
   rw [hF] at h1
   refine ⟨⟨rfl, rfl, rfl, Nat.le_of_ble_eq_true rfl⟩, ?_⟩
   have e1 : endE l i t = 8 := by unfold endE; rw [if_neg h0, if_pos h1]
   have e2 := end_err (show endE l i t ≠ 0 by rw [e1]; decide)
   rw [e1, e2]
   exact ⟨rfl, rfl, rfl, rfl⟩
  ·replace h1 : ¬ ((findL (l.take (l.length : Int).toNat) i) < 0) := h1
   rw [hF] at h1
   have hfl := findL_lt l i (by omega)
   refine ⟨⟨by show (0 : Int) ≤ findL (l.take (l.length : Int).toNat) i; omega, by show findL (l.take (l.length : Int).toNat) i < (l.length : Int); omega⟩, fun h2 => ?_, fun h2 => ?_⟩
   ·replace h2 : (l.getD ((findL (l.take (l.length : Int).toNat) i).toNat) d0).2.2.2.2.2.2.2.1 ≠ 1000001 := h2
    rw [hF] at h2
    refine ⟨⟨rfl, rfl, rfl, Nat.le_of_ble_eq_true rfl⟩, ?_⟩
    have e1 : endE l i t = 4 := by unfold endE; rw [if_neg h0, if_neg h1, if_pos h2]
    have e2 := end_err (show endE l i t ≠ 0 by rw [e1]; decide)
    rw [e1, e2]
    exact ⟨rfl, rfl, rfl, rfl⟩
   ·replace h2 : ¬ ((l.getD ((findL (l.take (l.length : Int).toNat) i).toNat) d0).2.2.2.2.2.2.2.1 ≠ 1000001) := h2
    rw [hF] at h2
    refine ⟨⟨by show (0 : Int) ≤ findL (l.take (l.length : Int).toNat) i; omega, by show findL (l.take (l.length : Int).toNat) i < (l.length : Int); omega⟩, fun h3 => ?_, fun h3 => ?_⟩
    ·replace h3 : ¬ (t < (l.getD ((findL (l.take (l.length : Int).toNat) i).toNat) d0).2.2.2.2.2.2.1) := h3
     rw [hF] at h3
     refine ⟨fun h4 => ?_, fun h4 => ?_⟩
     ·replace h4 : 1000000 < t := h4
      refine ⟨⟨rfl, rfl, rfl, Nat.le_of_ble_eq_true rfl⟩, ?_⟩
      have e1 : endE l i t = 1 := by unfold endE; rw [if_neg h0, if_neg h1, if_neg h2, if_pos (.inl (by omega))]
      have e2 := end_err (show endE l i t ≠ 0 by rw [e1]; decide)
      rw [e1, e2]
      exact ⟨rfl, rfl, rfl, rfl⟩
     ·replace h4 : ¬ (1000000 < t) := h4
      refine ⟨1, [(0, .k), (1, .k), (2, .k), (6, .k), (8, .k), (9, .k)], fun nM vs H => ∃ (k : Nat), k ≤ l.length ∧ (∀ a ∈ l.take k, ¬ (t ≤ a.2.2.2.2.2.2.1 ∧ i ∈ a.2.2.2.1)) ∧ nM = l.length - k ∧ vs = [.sl false (.cons (.int .i64) (.cons (.int .i64) (.cons (.int .i64) (.cons (.sl (.int .i64)) (.cons (.int .i64) (.cons (.int .i64) (.cons (.int .i64) (.cons (.int .i64) (.cons (.int .i64) (.cons (.int .i64) .nil)))))))))) l, .int .i64 i, .int .i64 t, .ptr 0 1 0 0, .int .i64 (findL (l.take (l.length : Int).toNat) i), .int .i64 (k : Int)] ∧ H = [.cells [.nils, .int .i64 0]], ⟨rfl, l.length, 0, by omega, by simp, by omega, rfl, rfl⟩, ?_⟩
      rintro nM vs H ⟨k, hc1_0, hc1_1, rfl, rfl, rfl⟩
      refine ⟨fun h5 => ?_, fun h5 => ?_⟩
      ·replace h5 : (k : Int) < (l.length : Int) := h5
       have hok := hp1 _ (getD_mem d0 l k (by omega))
       refine ⟨⟨by show (0 : Int) ≤ (k : Int); omega, by show (k : Int) < (l.length : Int); omega⟩, rfl, by show (l.getD k d0).2.2.2.1.length ≤ 1000000000; first | omega | assumption, fun h6 => ?_, fun h6 => ?_⟩
       ·replace h6 : i ∈ (l.getD k d0).2.2.2.1 := h6
        refine ⟨⟨by show (0 : Int) ≤ (k : Int); omega, by show (k : Int) < (l.length : Int); omega⟩, fun h7 => ?_, fun h7 => ?_⟩
        ·replace h7 : t ≤ (l.getD k d0).2.2.2.2.2.2.1 := h7
         refine ⟨⟨rfl, rfl, rfl, Nat.le_of_ble_eq_true rfl⟩, ?_⟩
         have e1 : endE l i t = 1 := by unfold endE; rw [if_neg h0, if_neg h1, if_neg h2, if_pos (.inr ⟨_, getD_mem d0 l k (by omega), h7, h6⟩)]
         have e2 := end_err (show endE l i t ≠ 0 by rw [e1]; decide)
         rw [e1, e2]
         exact ⟨rfl, rfl, rfl, rfl⟩
        ·replace h7 : ¬ (t ≤ (l.getD k d0).2.2.2.2.2.2.1) := h7
         refine ⟨⟨by show (-9223372036854775808 : Int) ≤ ((k : Int) + 1); omega, by show ((k : Int) + 1) ≤ (9223372036854775807 : Int); omega⟩, ?_⟩
         exact ⟨rfl, l.length - (k + 1), by omega, k + 1, by omega, all_nextG (d := d0) (p := fun a : (Int × (Int × (Int × (List Int × (Int × (Int × (Int × (Int × (Int × (Int × Unit)))))))))) => ¬ (t ≤ a.2.2.2.2.2.2.1 ∧ i ∈ a.2.2.2.1)) (by omega) (by assumption) (by rintro ⟨g1, g2⟩; first | exact absurd g1 (by assumption) | exact absurd g2 (by assumption)), rfl, rfl, rfl⟩
       ·replace h6 : ¬ (i ∈ (l.getD k d0).2.2.2.1) := h6
        refine ⟨⟨by show (-9223372036854775808 : Int) ≤ ((k : Int) + 1); omega, by show ((k : Int) + 1) ≤ (9223372036854775807 : Int); omega⟩, ?_⟩
        exact ⟨rfl, l.length - (k + 1), by omega, k + 1, by omega, all_nextG (d := d0) (p := fun a : (Int × (Int × (Int × (List Int × (Int × (Int × (Int × (Int × (Int × (Int × Unit)))))))))) => ¬ (t ≤ a.2.2.2.2.2.2.1 ∧ i ∈ a.2.2.2.1)) (by omega) (by assumption) (by rintro ⟨g1, g2⟩; first | exact absurd g1 (by assumption) | exact absurd g2 (by assumption)), rfl, rfl, rfl⟩
      ·replace h5 : ¬ ((k : Int) < (l.length : Int)) := h5
       have hnl : (([] : List (Int × (Int × (Int × (List Int × (Int × (Int × (Int × (Int × (Int × (Int × Unit))))))))))) ++ l).length = l.length := rfl
       refine ⟨⟨rfl, rfl⟩, by show ([] : List (Int × (Int × (Int × (List Int × (Int × (Int × (Int × (Int × (Int × (Int × Unit))))))))))).length + l.length ≤ 1000000000; simp only [List.length_cons, List.length_nil]; omega, ⟨by show (0 : Int) ≤ findL (l.take (l.length : Int).toNat) i; omega, by show findL (l.take (l.length : Int).toNat) i < ((([] : List (Int × (Int × (Int × (List Int × (Int × (Int × (Int × (Int × (Int × (Int × Unit))))))))))) ++ l).length : Int); omega⟩, rfl, ⟨rfl, rfl⟩, ⟨rfl, rfl, rfl, Nat.le_of_ble_eq_true rfl⟩, ?_⟩
       have e1 : endE l i t = 0 := by unfold endE; rw [if_neg h0, if_neg h1, if_neg h2, if_neg (by rintro (g | ⟨a, ha, g⟩); omega; exact hc1_1 a (by rw [List.take_of_length_le (by omega)]; exact ha) g)]
       have e2 := end_yes e1
       rw [e1, e2, ← hF]
       exact ⟨rfl, rfl, rfl, rfl⟩
    ·replace h3 : t < (l.getD ((findL (l.take (l.length : Int).toNat) i).toNat) d0).2.2.2.2.2.2.1 := h3
     rw [hF] at h3
     refine ⟨⟨rfl, rfl, rfl, Nat.le_of_ble_eq_true rfl⟩, ?_⟩
     have e1 : endE l i t = 1 := by unfold endE; rw [if_neg h0, if_neg h1, if_neg h2, if_pos (.inl (by omega))]
     have e2 := end_err (show endE l i t ≠ 0 by rw [e1]; decide)
     rw [e1, e2]
     exact ⟨rfl, rfl, rfl, rfl⟩
def CREn : List (Nat × Con) := (49, immC [.v (.sl (.cons (.int .i64) (.cons (.int .i64) (.cons (.int .i64) (.cons (.sl (.int .i64)) (.cons (.int .i64) (.cons (.int .i64) (.cons (.int .i64) (.cons (.int .i64) (.cons (.int .i64) (.cons (.int .i64) .nil))))))))))), .v (.int .i64), .v (.int .i64)] sREn) :: CRAd
theorem kREn : Known Try.prog (En CREn tys [] QOfs) := kRAd.addI Try.func49 Try.call49 [.w (.cons (.int .i64) (.cons (.int .i64) (.cons (.int .i64) (.cons (.sl (.int .i64)) (.cons (.int .i64) (.cons (.int .i64) (.cons (.int .i64) (.cons (.int .i64) (.cons (.int .i64) (.cons (.int .i64) .nil)))))))))), .k] fun ds p v bs h hp => by
  unfold sREn at h
  split at h <;> simp only [Option.some.injEq, Prod.mk.injEq, reduceCtorEq] at h
  obtain ⟨rfl, rfl, rfl⟩ := h
  exact bREn _ _ _ hp.1 hp.2
noncomputable def sRPu : List V → Option (Prop × V × List Blk)
  | [.sl false (.cons (.int .i64) (.cons (.int .i64) (.cons (.int .i64) (.cons (.sl (.int .i64)) (.cons (.int .i64) (.cons (.int .i64) (.cons (.int .i64) (.cons (.int .i64) (.cons (.int .i64) (.cons (.int .i64) .nil)))))))))) l, .int .i64 o, .int .i64 t] => some (l.length ≤ 1048576 ∧ (∀ a ∈ l, a.2.2.2.1.length ≤ 1048576), .agg [.own (.cons (.int .i64) (.cons (.int .i64) (.cons (.int .i64) (.cons (.sl (.int .i64)) (.cons (.int .i64) (.cons (.int .i64) (.cons (.int .i64) (.cons (.int .i64) (.cons (.int .i64) (.cons (.int .i64) .nil)))))))))) 0, .int .i64 (purE l o t)], [.row false (.cons (.int .i64) (.cons (.int .i64) (.cons (.int .i64) (.cons (.sl (.int .i64)) (.cons (.int .i64) (.cons (.int .i64) (.cons (.int .i64) (.cons (.int .i64) (.cons (.int .i64) (.cons (.int .i64) .nil)))))))))) (purL l o t)])
  | _ => none
set_option maxHeartbeats 4000000 in
theorem bRPu (l : List (Int × (Int × (Int × (List Int × (Int × (Int × (Int × (Int × (Int × (Int × Unit))))))))))) (o : Int) (t : Int) (hp0 : l.length ≤ 1048576) (hp1 : (∀ a ∈ l, a.2.2.2.1.length ≤ 1048576)) : bodyI (En CREn tys [] QOfs) Try.f55 [.w (.cons (.int .i64) (.cons (.int .i64) (.cons (.int .i64) (.cons (.sl (.int .i64)) (.cons (.int .i64) (.cons (.int .i64) (.cons (.int .i64) (.cons (.int .i64) (.cons (.int .i64) (.cons (.int .i64) .nil)))))))))), .k] [.sl false (.cons (.int .i64) (.cons (.int .i64) (.cons (.int .i64) (.cons (.sl (.int .i64)) (.cons (.int .i64) (.cons (.int .i64) (.cons (.int .i64) (.cons (.int .i64) (.cons (.int .i64) (.cons (.int .i64) .nil)))))))))) l, .int .i64 o, .int .i64 t] (.agg [.own (.cons (.int .i64) (.cons (.int .i64) (.cons (.int .i64) (.cons (.sl (.int .i64)) (.cons (.int .i64) (.cons (.int .i64) (.cons (.int .i64) (.cons (.int .i64) (.cons (.int .i64) (.cons (.int .i64) .nil)))))))))) 0, .int .i64 (purE l o t)]) [.row false (.cons (.int .i64) (.cons (.int .i64) (.cons (.int .i64) (.cons (.sl (.int .i64)) (.cons (.int .i64) (.cons (.int .i64) (.cons (.int .i64) (.cons (.int .i64) (.cons (.int .i64) (.cons (.int .i64) .nil)))))))))) (purL l o t)] := by
 refine ⟨rfl, rfl, rfl, rfl, ⟨by show l.length ≤ 1048576; first | omega | assumption, by first | assumption | simp⟩, fun h0 => ?_, fun h0 => ?_⟩
 ·replace h0 : (askE l o t 0 1000000) ≠ 0 := h0
  refine ⟨⟨rfl, rfl, rfl, Nat.le_of_ble_eq_true rfl⟩, ?_⟩
  have e1 : purE l o t = askE l o t 0 1000000 := if_pos h0
  have e2 := pur_err (show purE l o t ≠ 0 by rw [e1]; exact h0)
  rw [e1, e2]
  exact ⟨rfl, rfl, rfl, rfl⟩
 ·replace h0 : ¬ ((askE l o t 0 1000000) ≠ 0) := h0
  have hk0 : askE l o t 0 1000000 = 0 := Classical.not_not.1 h0
  obtain ⟨hc, ho, ht⟩ := ask_ok hk0
  have hl4 := (chk_ok hc).1
  refine ⟨⟨rfl, rfl⟩, by show ([] : List (Int × (Int × (Int × (List Int × (Int × (Int × (Int × (Int × (Int × (Int × Unit))))))))))).length + l.length ≤ 1000000000; simp only [List.length_cons, List.length_nil]; omega, 1, [(0, .k), (1, .k), (2, .k), (6, .k), (8, .w (.cons (.int .i64) (.cons (.int .i64) (.cons (.int .i64) (.cons (.sl (.int .i64)) (.cons (.int .i64) (.cons (.int .i64) (.cons (.int .i64) (.cons (.int .i64) (.cons (.int .i64) (.cons (.int .i64) .nil))))))))))), (9, .k)], fun nM vs H => ∃ (k : Nat), k ≤ l.length ∧ (l.take k).any (futB o t) = false ∧ (∀ q, q < k → pgC o t (l.getD q d0) → ∀ m, m < l.length → (l.getD q d0).1 ∈ (l.getD m d0).2.2.2.1 → ¬ t ≤ (l.getD m d0).2.2.2.2.2.2.1) ∧ nM = l.length - k ∧ vs = [.sl false (.cons (.int .i64) (.cons (.int .i64) (.cons (.int .i64) (.cons (.sl (.int .i64)) (.cons (.int .i64) (.cons (.int .i64) (.cons (.int .i64) (.cons (.int .i64) (.cons (.int .i64) (.cons (.int .i64) .nil)))))))))) l, .int .i64 o, .int .i64 t, .ptr 0 1 0 0, .own (.cons (.int .i64) (.cons (.int .i64) (.cons (.int .i64) (.cons (.sl (.int .i64)) (.cons (.int .i64) (.cons (.int .i64) (.cons (.int .i64) (.cons (.int .i64) (.cons (.int .i64) (.cons (.int .i64) .nil)))))))))) 1, .int .i64 (k : Int)] ∧ H = [.cells [.nils, .int .i64 0], .row false (.cons (.int .i64) (.cons (.int .i64) (.cons (.int .i64) (.cons (.sl (.int .i64)) (.cons (.int .i64) (.cons (.int .i64) (.cons (.int .i64) (.cons (.int .i64) (.cons (.int .i64) (.cons (.int .i64) .nil)))))))))) (purK o t l k)], ⟨rfl, l.length, 0, by omega, rfl, fun q hq => absurd hq (by omega), by omega, rfl, rfl⟩, ?_⟩
  rintro nM vs H ⟨k, hc1_0, hc1_1, hc1_2, rfl, rfl, rfl⟩
  refine ⟨fun h1 => ?_, fun h1 => ?_⟩
  ·replace h1 : (k : Int) < (l.length : Int) := h1
   have hk : k < l.length := by omega
   have hpk : (purK o t l k).length = l.length := purK_len
   have hbd : ∀ q, q < k → pgC o t (l.getD q d0) → ∀ m, m < l.length → (l.getD q d0).1 ∈ (l.getD m d0).2.2.2.1 → ¬ t ≤ (l.getD m d0).2.2.2.2.2.2.1 := by assumption
   refine ⟨⟨by show (0 : Int) ≤ (k : Int); omega, by show (k : Int) < (l.length : Int); omega⟩, fun h2 => ?_, fun h2 => ?_⟩
   ·replace h2 : ¬ ((l.getD k d0).2.2.1 ≠ o) := h2
    refine ⟨⟨by show (0 : Int) ≤ (k : Int); omega, by show (k : Int) < (l.length : Int); omega⟩, fun h3 => ?_, fun h3 => ?_⟩
    ·replace h3 : (l.getD k d0).2.1 = 4 := h3
     refine ⟨⟨by show (-9223372036854775808 : Int) ≤ ((k : Int) + 1); omega, by show ((k : Int) + 1) ≤ (9223372036854775807 : Int); omega⟩, ?_⟩
     have hnp : ¬ pgC o t (l.getD k d0) := by rintro ⟨g1, g2, g3⟩; first | exact absurd g1 (by assumption) | exact absurd (by assumption) g2 | exact absurd g3 (by assumption)
     exact ⟨rfl, l.length - (k + 1), by omega, k + 1, by omega, fut_next hk (by assumption) (by rintro ⟨g1, g2, g3⟩; first | omega | exact absurd g1 (by assumption) | exact absurd (by assumption) g2), bad_next (by assumption) (fun g => absurd g hnp), rfl, rfl, by rw [purK_f hk hnp]; rfl⟩
    ·replace h3 : ¬ ((l.getD k d0).2.1 = 4) := h3
     refine ⟨⟨by show (0 : Int) ≤ (k : Int); omega, by show (k : Int) < (l.length : Int); omega⟩, fun h4 => ?_, fun h4 => ?_⟩
     ·replace h4 : t < (l.getD k d0).2.2.2.2.2.2.1 := h4
      refine ⟨⟨rfl, rfl, rfl, Nat.le_of_ble_eq_true rfl⟩, ?_⟩
      have e1 : purE l o t = 4 := pur_fut hk0 hk (by assumption) (by assumption) (by assumption)
      have e2 := pur_err (show purE l o t ≠ 0 by rw [e1]; decide)
      rw [e1, e2]
      exact ⟨rfl, rfl, rfl, rfl⟩
     ·replace h4 : ¬ (t < (l.getD k d0).2.2.2.2.2.2.1) := h4
      refine ⟨⟨by show (0 : Int) ≤ (k : Int); omega, by show (k : Int) < (l.length : Int); omega⟩, rfl, rfl, rfl, rfl, rfl, rfl, rfl, rfl, rfl, rfl, trivial, fun h5 => ?_, fun h5 => ?_⟩
      ·replace h5 : ¬ ((l.getD k d0).2.2.2.2.2.2.1 ≤ t ∧ t < (l.getD k d0).2.2.2.2.2.2.2.1) := h5
       refine ⟨⟨by show (-9223372036854775808 : Int) ≤ ((k : Int) + 1); omega, by show ((k : Int) + 1) ≤ (9223372036854775807 : Int); omega⟩, ?_⟩
       have hnp : ¬ pgC o t (l.getD k d0) := by rintro ⟨g1, g2, g3⟩; first | exact absurd g1 (by assumption) | exact absurd (by assumption) g2 | exact absurd g3 (by assumption)
       exact ⟨rfl, l.length - (k + 1), by omega, k + 1, by omega, fut_next hk (by assumption) (by rintro ⟨g1, g2, g3⟩; first | omega | exact absurd g1 (by assumption) | exact absurd (by assumption) g2), bad_next (by assumption) (fun g => absurd g hnp), rfl, rfl, by rw [purK_f hk hnp]; rfl⟩
      ·replace h5 : ¬ (¬ ((l.getD k d0).2.2.2.2.2.2.1 ≤ t ∧ t < (l.getD k d0).2.2.2.2.2.2.2.1)) := h5
       have hpg : pgC o t (l.getD k d0) := ⟨Classical.not_not.1 h2, h3, Classical.not_not.1 h5⟩
       refine ⟨⟨by show (0 : Int) ≤ (k : Int); omega, by show (k : Int) < ((purK o t l k).length : Int); omega⟩, rfl, ⟨rfl, rfl⟩, 2, [(0, .k), (1, .k), (2, .k), (6, .k), (8, .o (.cons (.int .i64) (.cons (.int .i64) (.cons (.int .i64) (.cons (.sl (.int .i64)) (.cons (.int .i64) (.cons (.int .i64) (.cons (.int .i64) (.cons (.int .i64) (.cons (.int .i64) (.cons (.int .i64) .nil))))))))))), (9, .k), (11, .k)], fun nM vs H => ∃ (j : Nat), j ≤ l.length ∧ (∀ m, m < j → (l.getD k d0).1 ∈ (l.getD m d0).2.2.2.1 → ¬ t ≤ (l.getD m d0).2.2.2.2.2.2.1) ∧ nM = l.length - j ∧ vs = [.sl false (.cons (.int .i64) (.cons (.int .i64) (.cons (.int .i64) (.cons (.sl (.int .i64)) (.cons (.int .i64) (.cons (.int .i64) (.cons (.int .i64) (.cons (.int .i64) (.cons (.int .i64) (.cons (.int .i64) .nil)))))))))) l, .int .i64 o, .int .i64 t, .ptr 0 1 0 0, .own (.cons (.int .i64) (.cons (.int .i64) (.cons (.int .i64) (.cons (.sl (.int .i64)) (.cons (.int .i64) (.cons (.int .i64) (.cons (.int .i64) (.cons (.int .i64) (.cons (.int .i64) (.cons (.int .i64) .nil)))))))))) 1, .int .i64 (k : Int), .int .i64 (j : Int)] ∧ H = [.cells [.nils, .int .i64 0], .row false (.cons (.int .i64) (.cons (.int .i64) (.cons (.int .i64) (.cons (.sl (.int .i64)) (.cons (.int .i64) (.cons (.int .i64) (.cons (.int .i64) (.cons (.int .i64) (.cons (.int .i64) (.cons (.int .i64) .nil)))))))))) ((purK o t l k).set k (((purK o t l k).getD k d0).1, (((purK o t l k).getD k d0).2.1, (((purK o t l k).getD k d0).2.2.1, (((purK o t l k).getD k d0).2.2.2.1, (((purK o t l k).getD k d0).2.2.2.2.1, (((purK o t l k).getD k d0).2.2.2.2.2.1, (((purK o t l k).getD k d0).2.2.2.2.2.2.1, (t, ((purK o t l k).getD k d0).2.2.2.2.2.2.2.2)))))))))], ⟨rfl, l.length, 0, by omega, fun m hm => absurd hm (by omega), by omega, rfl, rfl⟩, ?_⟩
       rintro nM vs H ⟨j, hc2_0, hc2_1, rfl, rfl, rfl⟩
       have hjj := hc2_1
       refine ⟨fun h6 => ?_, fun h6 => ?_⟩
       ·replace h6 : (j : Int) < (l.length : Int) := h6
        have hok := hp1 _ (getD_mem d0 l j (by omega))
        refine ⟨by kernel_rfl, ⟨by show (0 : Int) ≤ (j : Int); omega, by show (j : Int) < (l.length : Int); omega⟩, ⟨by show (0 : Int) ≤ (k : Int); omega, by show (k : Int) < (l.length : Int); omega⟩, rfl, by show (l.getD j d0).2.2.2.1.length ≤ 1000000000; first | omega | assumption, fun h7 => ?_, fun h7 => ?_⟩
        ·replace h7 : (l.getD k d0).1 ∈ (l.getD j d0).2.2.2.1 := h7
         refine ⟨⟨by show (0 : Int) ≤ (j : Int); omega, by show (j : Int) < (l.length : Int); omega⟩, fun h8 => ?_, fun h8 => ?_⟩
         ·replace h8 : t ≤ (l.getD j d0).2.2.2.2.2.2.1 := h8
          refine ⟨⟨rfl, rfl, rfl, Nat.le_of_ble_eq_true rfl⟩, ?_⟩
          have e1 : purE l o t = 4 := pur_bad hk0 (fun g => (pur_chk hc (by omega)).1 g k hk hpg j (by omega) h7 h8)
          have e2 := pur_err (show purE l o t ≠ 0 by rw [e1]; decide)
          rw [e1, e2]
          exact ⟨rfl, rfl, rfl, rfl⟩
         ·replace h8 : ¬ (t ≤ (l.getD j d0).2.2.2.2.2.2.1) := h8
          refine ⟨⟨by show (-9223372036854775808 : Int) ≤ ((j : Int) + 1); omega, by show ((j : Int) + 1) ≤ (9223372036854775807 : Int); omega⟩, ?_⟩
          exact ⟨rfl, l.length - (j + 1), by omega, j + 1, by omega, lt_next hjj (by first | exact fun _ => by assumption | exact fun g => absurd g (by assumption)), rfl, rfl, rfl⟩
        ·replace h7 : ¬ ((l.getD k d0).1 ∈ (l.getD j d0).2.2.2.1) := h7
         refine ⟨⟨by show (-9223372036854775808 : Int) ≤ ((j : Int) + 1); omega, by show ((j : Int) + 1) ≤ (9223372036854775807 : Int); omega⟩, ?_⟩
         exact ⟨rfl, l.length - (j + 1), by omega, j + 1, by omega, lt_next hjj (by first | exact fun _ => by assumption | exact fun g => absurd g (by assumption)), rfl, rfl, rfl⟩
       ·replace h6 : ¬ ((j : Int) < (l.length : Int)) := h6
        refine ⟨⟨by show (-9223372036854775808 : Int) ≤ ((k : Int) + 1); omega, by show ((k : Int) + 1) ≤ (9223372036854775807 : Int); omega⟩, ?_⟩
        exact ⟨rfl, l.length - (k + 1), by omega, k + 1, by omega, fut_next hk (by assumption) (by rintro ⟨g1, g2, g3⟩; first | omega | exact absurd g1 (by assumption) | exact absurd (by assumption) g2), bad_next hbd (fun _ => fun m hm => hjj m (by omega)), rfl, rfl, by rw [purK_t hk hpg]; rfl⟩
   ·replace h2 : (l.getD k d0).2.2.1 ≠ o := h2
    refine ⟨⟨by show (-9223372036854775808 : Int) ≤ ((k : Int) + 1); omega, by show ((k : Int) + 1) ≤ (9223372036854775807 : Int); omega⟩, ?_⟩
    have hnp : ¬ pgC o t (l.getD k d0) := by rintro ⟨g1, g2, g3⟩; first | exact absurd g1 (by assumption) | exact absurd (by assumption) g2 | exact absurd g3 (by assumption)
    exact ⟨rfl, l.length - (k + 1), by omega, k + 1, by omega, fut_next hk (by assumption) (by rintro ⟨g1, g2, g3⟩; first | omega | exact absurd g1 (by assumption) | exact absurd (by assumption) g2), bad_next (by assumption) (fun g => absurd g hnp), rfl, rfl, by rw [purK_f hk hnp]; rfl⟩
  ·replace h1 : ¬ ((k : Int) < (l.length : Int)) := h1
   refine ⟨⟨rfl, rfl, rfl, Nat.le_of_ble_eq_true rfl⟩, ?_⟩
   have e1 : purE l o t = 0 := pur_ok hk0 (by rw [← hc1_1, List.take_of_length_le (by omega)]) ((pur_chk hc (by omega)).2 (fun q hq => hc1_2 q (by omega)))
   have e2 := pur_yes e1
   rw [e1, e2, ← purK_end (show l.length ≤ k by omega)]
   exact ⟨rfl, rfl, rfl, rfl⟩
def CRPu : List (Nat × Con) := (55, immC [.v (.sl (.cons (.int .i64) (.cons (.int .i64) (.cons (.int .i64) (.cons (.sl (.int .i64)) (.cons (.int .i64) (.cons (.int .i64) (.cons (.int .i64) (.cons (.int .i64) (.cons (.int .i64) (.cons (.int .i64) .nil))))))))))), .v (.int .i64), .v (.int .i64)] sRPu) :: CREn
theorem kRPu : Known Try.prog (En CRPu tys [] QOfs) := kREn.addI Try.func55 Try.call55 [.w (.cons (.int .i64) (.cons (.int .i64) (.cons (.int .i64) (.cons (.sl (.int .i64)) (.cons (.int .i64) (.cons (.int .i64) (.cons (.int .i64) (.cons (.int .i64) (.cons (.int .i64) (.cons (.int .i64) .nil)))))))))), .k] fun ds p v bs h hp => by
  unfold sRPu at h
  split at h <;> simp only [Option.some.injEq, Prod.mk.injEq, reduceCtorEq] at h
  obtain ⟨rfl, rfl, rfl⟩ := h
  exact bRPu _ _ _ hp.1 hp.2
end Go.Proofs.Ytgljcfnplkcfhaa.S38

namespace Go.Proofs.Ytgljcfnplkcfhaa.S38
open Go

theorem mem_set_of {l : List (Int × (Int × (Int × (List Int × (Int × (Int × (Int × (Int × (Int × (Int × Unit))))))))))} {k : Nat} {x : (Int × (Int × (Int × (List Int × (Int × (Int × (Int × (Int × (Int × (Int × Unit))))))))))} (h : ∀ a ∈ l, a.2.2.2.1.length ≤ 1048576) (hx : x.2.2.2.1.length ≤ 1048576) : ∀ a ∈ l.set k x, a.2.2.2.1.length ≤ 1048576 := fun a ha => by
  rcases List.mem_or_eq_of_mem_set ha with g | g
  · exact h a g
  · rw [g]; exact hx
theorem addL_ok {l : List (Int × (Int × (Int × (List Int × (Int × (Int × (Int × (Int × (Int × (Int × Unit))))))))))} {a : (Int × (Int × (Int × (List Int × (Int × (Int × (Int × (Int × (Int × (Int × Unit))))))))))} (h : ∀ a ∈ l, a.2.2.2.1.length ≤ 1048576) (ha : a.2.2.2.1.length ≤ 1048576) : (addL l a).length ≤ 400 ∧ ∀ x ∈ addL l a, x.2.2.2.1.length ≤ 1048576 := by
  by_cases hE : addE l a = 0
  · rw [add_yes hE]
    have hc : chkL (l ++ [a]) = 0 := by
      unfold addE at hE
      split at hE
      · contradiction
      · exact hE
    refine ⟨(chk_ok hc).1, fun x hx => ?_⟩
    rcases List.mem_append.1 hx with g | g
    · exact h x g
    · rw [List.mem_singleton.1 g]; exact ha
  · rw [add_err hE]; simp
theorem endL_ok {l : List (Int × (Int × (Int × (List Int × (Int × (Int × (Int × (Int × (Int × (Int × Unit))))))))))} {i t : Int} (h : ∀ a ∈ l, a.2.2.2.1.length ≤ 1048576) : (endL l i t).length ≤ l.length ∧ ∀ x ∈ endL l i t, x.2.2.2.1.length ≤ 1048576 := by
  by_cases hE : endE l i t = 0
  · rw [end_yes hE, List.length_set]
    refine ⟨Nat.le_refl _, mem_set_of h ?_⟩
    by_cases hk : (findL l i).toNat < l.length
    · have := h _ (getD_mem d0 l _ hk)
      exact this
    · have : l.getD (findL l i).toNat d0 = d0 := by rw [List.getD_eq_getElem?_getD, List.getElem?_eq_none (by omega)]; rfl
      rw [this]; simp [setgo]
  · rw [end_err hE]; simp
theorem purL_ok {l : List (Int × (Int × (Int × (List Int × (Int × (Int × (Int × (Int × (Int × (Int × Unit))))))))))} {o t : Int} (h : ∀ a ∈ l, a.2.2.2.1.length ≤ 1048576) : (purL l o t).length ≤ l.length ∧ ∀ x ∈ purL l o t, x.2.2.2.1.length ≤ 1048576 := by
  by_cases hE : purE l o t = 0
  · rw [pur_yes hE, purF_len]; exact ⟨Nat.le_refl _, purF_of h⟩
  · rw [pur_err hE]; simp
theorem abvL_len (l : List (Int × (Int × (Int × (List Int × (Int × (Int × (Int × (Int × (Int × (Int × Unit))))))))))) (i : Int) : (abvL l i).length ≤ l.length := by
  unfold abvL; split
  · exact inO_len _ _
  · exact Nat.zero_le _
theorem blwL_len (l : List (Int × (Int × (Int × (List Int × (Int × (Int × (Int × (Int × (Int × (Int × Unit))))))))))) (i : Int) : (blwL l i).length ≤ l.length := by
  unfold blwL; split
  · exact inO_len _ _
  · exact Nat.zero_le _
end Go.Proofs.Ytgljcfnplkcfhaa.S38

namespace Go.Proofs.Ytgljcfnplkcfhaa.S38
open Go Go.Proofs.Ytgljcfnplkcfhaa.Vc Go.Proofs
set_option maxRecDepth 100000
set_option linter.unusedVariables false

noncomputable def sLKeeps : List V → Option (Prop × V × List Blk)
  | [.sl false (.cons (.int .i64) (.cons (.int .i64) (.cons (.int .i64) (.cons (.sl (.int .i64)) (.cons (.int .i64) (.cons (.int .i64) (.cons (.int .i64) (.cons (.int .i64) (.cons (.int .i64) (.cons (.int .i64) .nil)))))))))) l, .agg [.int .i64 id0, .int .i64 kd0, .int .i64 ob0, .sl false (.int .i64) of0, .int .i64 ho0, .int .i64 di0, .int .i64 bo0, .int .i64 go0, .int .i64 hr0, .int .i64 pe0], .dat false (.arr 3 (.int .i64)) nu] => some (l.length ≤ 1048576 ∧ (∀ a ∈ l, a.2.2.2.1.length ≤ 1048576) ∧ of0.length ≤ 1048576 ∧ nu.length = 3, .b True, [])
  | _ => none
set_option maxHeartbeats 4000000 in
theorem bLKeeps (l : List (Int × (Int × (Int × (List Int × (Int × (Int × (Int × (Int × (Int × (Int × Unit))))))))))) (id0 : Int) (kd0 : Int) (ob0 : Int) (of0 : List Int) (ho0 : Int) (di0 : Int) (bo0 : Int) (go0 : Int) (hr0 : Int) (pe0 : Int) (nu : List Int) (hp0 : l.length ≤ 1048576) (hp1 : (∀ a ∈ l, a.2.2.2.1.length ≤ 1048576)) (hp2 : of0.length ≤ 1048576) (hp3 : nu.length = 3) : bodyP (En CRPu tys [] QOfs) Try.f10 [.k] [.sl false (.cons (.int .i64) (.cons (.int .i64) (.cons (.int .i64) (.cons (.sl (.int .i64)) (.cons (.int .i64) (.cons (.int .i64) (.cons (.int .i64) (.cons (.int .i64) (.cons (.int .i64) (.cons (.int .i64) .nil)))))))))) l, .agg [.int .i64 id0, .int .i64 kd0, .int .i64 ob0, .sl false (.int .i64) of0, .int .i64 ho0, .int .i64 di0, .int .i64 bo0, .int .i64 go0, .int .i64 hr0, .int .i64 pe0], .dat false (.arr 3 (.int .i64)) nu] (.b True) [] := by
 obtain ⟨w1, w2⟩ := addL_ok (a := (id0, (kd0, (ob0, (of0, (ho0, (di0, (bo0, (go0, (hr0, (pe0, ()))))))))))) hp1 hp2
 obtain ⟨w3, w4⟩ := endL_ok (i := (nu.getD 0 0)) (t := (nu.getD 1 0)) hp1
 obtain ⟨w5, w6⟩ := purL_ok (o := (nu.getD 2 0)) (t := (nu.getD 1 0)) hp1
 have w7 := abvL_len l (nu.getD 0 0)
 have w8 := blwL_len l (nu.getD 0 0)
 refine ⟨⟨rfl, by first | assumption | rfl | simp⟩, rfl, by show l.length ≤ 1048576; first | omega | assumption, fun h0 => ?_, fun h0 => ?_⟩
 ·replace h0 : ¬ (¬ (fewA l 20)) := h0
  refine ⟨fun h1 => ?_, fun h1 => ?_⟩
  ·replace h1 : 20 < (of0.length : Int) := h1
   refine ⟨trivial, ?_⟩
   exact ⟨rfl, rfl, congrArg V.b (propext ⟨fun _ => trivial, fun _ => by first | trivial | rfl⟩), rfl⟩
  ·replace h1 : ¬ (20 < (of0.length : Int)) := h1
   refine ⟨rfl, rfl, rfl, rfl, rfl, rfl, rfl, rfl, rfl, ⟨by show l.length ≤ 1048576; first | omega | assumption, by first | assumption | simp, by show of0.length ≤ 1048576; first | omega | assumption⟩, rfl, rfl, rfl, rfl, rfl, rfl, rfl, rfl, rfl, ⟨by show l.length ≤ 1048576; first | omega | assumption, by first | assumption | simp, by show of0.length ≤ 1048576; first | omega | assumption⟩, ⟨rfl, rfl, rfl, Nat.le_of_ble_eq_true rfl⟩, ⟨by show (0 : Int) ≤ 0; omega, by show 0 < (3 : Int); omega, by first | assumption | rfl | simp⟩, ⟨by show (0 : Int) ≤ 1; omega, by show 1 < (3 : Int); omega, by first | assumption | rfl | simp⟩, rfl, rfl, ⟨by show l.length ≤ 1048576; first | omega | assumption, by first | assumption | simp⟩, ⟨by show (0 : Int) ≤ 0; omega, by show 0 < (3 : Int); omega, by first | assumption | rfl | simp⟩, ⟨by show (0 : Int) ≤ 1; omega, by show 1 < (3 : Int); omega, by first | assumption | rfl | simp⟩, rfl, rfl, ⟨by show l.length ≤ 1048576; first | omega | assumption, by first | assumption | simp⟩, ⟨rfl, rfl, rfl, Nat.le_of_ble_eq_true rfl⟩, ⟨by show (0 : Int) ≤ 0; omega, by show 0 < (3 : Int); omega, by first | assumption | rfl | simp⟩, rfl, ⟨by show l.length ≤ 1048576; first | omega | assumption, by first | assumption | simp⟩, ⟨by show (0 : Int) ≤ 0; omega, by show 0 < (3 : Int); omega, by first | assumption | rfl | simp⟩, rfl, ⟨by show l.length ≤ 1048576; first | omega | assumption, by first | assumption | simp⟩, ⟨rfl, rfl, rfl, Nat.le_of_ble_eq_true rfl⟩, ⟨by show (0 : Int) ≤ 0; omega, by show 0 < (3 : Int); omega, by first | assumption | rfl | simp⟩, rfl, ⟨by show l.length ≤ 1048576; first | omega | assumption, by first | assumption | simp⟩, ⟨by show (0 : Int) ≤ 0; omega, by show 0 < (3 : Int); omega, by first | assumption | rfl | simp⟩, rfl, ⟨by show l.length ≤ 1048576; first | omega | assumption, by first | assumption | simp⟩, ⟨rfl, rfl, rfl, Nat.le_of_ble_eq_true rfl⟩, ⟨by show (0 : Int) ≤ 2; omega, by show 2 < (3 : Int); omega, by first | assumption | rfl | simp⟩, ⟨by show (0 : Int) ≤ 1; omega, by show 1 < (3 : Int); omega, by first | assumption | rfl | simp⟩, rfl, rfl, ⟨by show l.length ≤ 1048576; first | omega | assumption, by first | assumption | simp⟩, ⟨by show (0 : Int) ≤ 2; omega, by show 2 < (3 : Int); omega, by first | assumption | rfl | simp⟩, ⟨by show (0 : Int) ≤ 1; omega, by show 1 < (3 : Int); omega, by first | assumption | rfl | simp⟩, rfl, rfl, ⟨by show l.length ≤ 1048576; first | omega | assumption, by first | assumption | simp⟩, ⟨rfl, rfl, rfl, Nat.le_of_ble_eq_true rfl⟩, ⟨by show l.length ≤ 1048576; first | omega | assumption, by first | assumption | simp⟩, ⟨by show l.length ≤ 1048576; first | omega | assumption, by first | assumption | simp⟩, fun h2 => ?_, fun h2 => absurd (show (chkL l) = (chkL l) by first | trivial | rfl) h2⟩
   refine ⟨fun h3 => ?_, fun h3 => absurd (show (addE l (id0, (kd0, (ob0, (of0, (ho0, (di0, (bo0, (go0, (hr0, (pe0, ()))))))))))) = (addE l (id0, (kd0, (ob0, (of0, (ho0, (di0, (bo0, (go0, (hr0, (pe0, ()))))))))))) by first | trivial | rfl) h3⟩
   refine ⟨fun h4 => ?_, fun h4 => absurd (show (endE l (nu.getD 0 0) (nu.getD 1 0)) = (endE l (nu.getD 0 0) (nu.getD 1 0)) by first | trivial | rfl) h4⟩
   refine ⟨fun h5 => ?_, fun h5 => absurd (show (closE l (nu.getD 0 0)) = (closE l (nu.getD 0 0)) by first | trivial | rfl) h5⟩
   refine ⟨fun h6 => ?_, fun h6 => absurd (show (closE l (nu.getD 0 0)) = (closE l (nu.getD 0 0)) by first | trivial | rfl) h6⟩
   refine ⟨trivial, fun h7 => ?_, fun h7 => absurd (show True by first | trivial | rfl) h7⟩
   refine ⟨fun h8 => ?_, fun h8 => absurd (show (purE l (nu.getD 2 0) (nu.getD 1 0)) = (purE l (nu.getD 2 0) (nu.getD 1 0)) by first | trivial | rfl) h8⟩
   refine ⟨⟨by show (addL l (id0, (kd0, (ob0, (of0, (ho0, (di0, (bo0, (go0, (hr0, (pe0, ()))))))))))).length ≤ 1048576; first | omega | assumption, by show (addL l (id0, (kd0, (ob0, (of0, (ho0, (di0, (bo0, (go0, (hr0, (pe0, ()))))))))))).length ≤ 1048576; first | omega | assumption, by first | assumption | simp, by first | assumption | simp⟩, fun h9 => ?_, fun h9 => absurd (show (addL l (id0, (kd0, (ob0, (of0, (ho0, (di0, (bo0, (go0, (hr0, (pe0, ()))))))))))) = (addL l (id0, (kd0, (ob0, (of0, (ho0, (di0, (bo0, (go0, (hr0, (pe0, ()))))))))))) by first | trivial | rfl) h9⟩
   refine ⟨⟨by show (endL l (nu.getD 0 0) (nu.getD 1 0)).length ≤ 1048576; first | omega | assumption, by show (endL l (nu.getD 0 0) (nu.getD 1 0)).length ≤ 1048576; first | omega | assumption, by first | assumption | simp, by first | assumption | simp⟩, fun h10 => ?_, fun h10 => absurd (show (endL l (nu.getD 0 0) (nu.getD 1 0)) = (endL l (nu.getD 0 0) (nu.getD 1 0)) by first | trivial | rfl) h10⟩
   refine ⟨⟨by show (abvL l (nu.getD 0 0)).length ≤ 1048576; first | omega | assumption, by show (abvL l (nu.getD 0 0)).length ≤ 1048576; first | omega | assumption⟩, fun h11 => ?_, fun h11 => absurd (show (abvL l (nu.getD 0 0)) = (abvL l (nu.getD 0 0)) by first | trivial | rfl) h11⟩
   refine ⟨⟨by show (blwL l (nu.getD 0 0)).length ≤ 1048576; first | omega | assumption, by show (blwL l (nu.getD 0 0)).length ≤ 1048576; first | omega | assumption⟩, fun h12 => ?_, fun h12 => absurd (show (blwL l (nu.getD 0 0)) = (blwL l (nu.getD 0 0)) by first | trivial | rfl) h12⟩
   refine ⟨⟨by show (purL l (nu.getD 2 0) (nu.getD 1 0)).length ≤ 1048576; first | omega | assumption, by show (purL l (nu.getD 2 0) (nu.getD 1 0)).length ≤ 1048576; first | omega | assumption, by first | assumption | simp, by first | assumption | simp⟩, ?_⟩
   exact ⟨rfl, rfl, congrArg V.b (propext ⟨fun _ => trivial, fun _ => by first | trivial | rfl⟩), rfl⟩
 ·replace h0 : ¬ (fewA l 20) := h0
  refine ⟨trivial, ?_⟩
  exact ⟨rfl, rfl, congrArg V.b (propext ⟨fun _ => trivial, fun _ => by first | trivial | rfl⟩), rfl⟩
end Go.Proofs.Ytgljcfnplkcfhaa.S38

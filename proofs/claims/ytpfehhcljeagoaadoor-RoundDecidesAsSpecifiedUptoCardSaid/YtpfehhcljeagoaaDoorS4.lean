/- Texts of this claim: S28.XT2, S28.XT3, S28.XPj, S28.XU1, S28.XU2, S28.XU3, S28.XU4, S28.XU5, S28.XPk. -/
import Derived.Test.YtpfehhcljeagoaaDoorS3
set_option linter.unusedVariables false
set_option linter.unusedSimpArgs false
namespace Go.Proofs.YtpfehhcljeagoaaDoor.S28c
open Go Go.Proofs.YtpfehhcljeagoaaDoor.Vc Go.Proofs
set_option maxRecDepth 100000
set_option linter.unusedVariables false
open Go.Proofs.YtpfehhcljeagoaaDoor.S28
noncomputable def sSSt : List V → Option (Prop × V × List Blk)
 | [.agg [.int .i64 ah, .str sa, .sl false (.sl .str) ar, .sl false (.sl (.sl .str)) av], .agg [.int .i64 bh, .str sb, .sl false (.sl .str) br, .sl false (.sl (.sl .str)) bv]] => some (ar.length ≤ 1048576 ∧ br.length ≤ 1048576 ∧ av.length ≤ 1048576 ∧ bv.length ≤ 1048576 ∧ (∀ x ∈ ar, x.length ≤ 1048576) ∧ (∀ x ∈ br, x.length ≤ 1048576) ∧ (∀ x ∈ av, x.length ≤ 1048576 ∧ ∀ y ∈ x, y.length ≤ 1048576) ∧ (∀ x ∈ bv, x.length ≤ 1048576 ∧ ∀ y ∈ x, y.length ≤ 1048576), .b (ah = bh ∧ sa = sb ∧ ar = br ∧ av = bv), [])
 | _ => none
set_option maxHeartbeats 4000000 in
theorem bSSt (ah : Int) (sa : List UInt8) (ar : List (List (List UInt8))) (av : List (List (List (List UInt8)))) (bh : Int) (sb : List UInt8) (br : List (List (List UInt8))) (bv : List (List (List (List UInt8)))) (hp0 : ar.length ≤ 1048576) (hp1 : br.length ≤ 1048576) (hp2 : av.length ≤ 1048576) (hp3 : bv.length ≤ 1048576) (hp4 : (∀ x ∈ ar, x.length ≤ 1048576)) (hp5 : (∀ x ∈ br, x.length ≤ 1048576)) (hp6 : (∀ x ∈ av, x.length ≤ 1048576 ∧ ∀ y ∈ x, y.length ≤ 1048576)) (hp7 : (∀ x ∈ bv, x.length ≤ 1048576 ∧ ∀ y ∈ x, y.length ≤ 1048576)) : bodyP (En CSMl tys G6 []) Tryd.f13 [.k] [.agg [.int .i64 ah, .str sa, .sl false (.sl .str) ar, .sl false (.sl (.sl .str)) av], .agg [.int .i64 bh, .str sb, .sl false (.sl .str) br, .sl false (.sl (.sl .str)) bv]] (.b (ah = bh ∧ sa = sb ∧ ar = br ∧ av = bv)) [] := by
 refine ⟨fun h0 => ?_, fun h0 => ?_⟩
 ·replace h0 : ¬ (ah ≠ bh) := h0
  refine ⟨fun h1 => ?_, fun h1 => ?_⟩
  ·replace h1 : ¬ (sa ≠ sb) := h1
   refine ⟨fun h2 => ?_, fun h2 => ?_⟩
   ·replace h2 : ¬ ((ar.length : Int) ≠ (br.length : Int)) := h2
    refine ⟨fun h3 => ?_, fun h3 => ?_⟩
    ·replace h3 : (av.length : Int) ≠ (bv.length : Int) := h3
     exact ⟨rfl, rfl, congrArg V.b (propext ⟨fun h => Bool.noConfusion h, fun h => False.elim (h3 (by rw [h.2.2.2]))⟩), rfl⟩
    ·replace h3 : ¬ ((av.length : Int) ≠ (bv.length : Int)) := h3
     refine ⟨2, [(2, .k), (3, .k), (5, .k)], fun nM vs H => ∃ (k : Nat), k ≤ ar.length ∧ ar.take k = br.take k ∧ nM = ar.length - k ∧ vs = [.ptr 0 1 0 0, .ptr 1 1 0 0, .int .i64 (k : Int)] ∧ H = [.cells [.int .i64 ah, .str sa, .sl false (.sl .str) ar, .sl false (.sl (.sl .str)) av], .cells [.int .i64 bh, .str sb, .sl false (.sl .str) br, .sl false (.sl (.sl .str)) bv]], ⟨rfl, ar.length, 0, by omega, rfl, by omega, rfl, rfl⟩, ?_⟩
     rintro nM vs H ⟨k, hc1_0, hc1_1, rfl, rfl, rfl⟩
     refine ⟨fun h4 => ?_, fun h4 => ?_⟩
     ·replace h4 : (k : Int) < (ar.length : Int) := h4
      have hka : k < ar.length := by omega
      have hkb : k < br.length := by omega
      have la := hp4 _ (gmem [] ar k hka)
      have lb := hp5 _ (gmem [] br k hkb)
      refine ⟨by kernel_rfl, (i0 (k : Int) (ar.length : Int)), (i0 (k : Int) (br.length : Int)), ⟨by show (ar.getD k []).length ≤ 1048576; first | omega | assumption | (simp only [List.length_cons, List.length_nil, List.length_append, List.length_take, List.length_drop, List.length_set, List.length_replicate]; omega), by show (br.getD k []).length ≤ 1048576; first | omega | assumption | (simp only [List.length_cons, List.length_nil, List.length_append, List.length_take, List.length_drop, List.length_set, List.length_replicate]; omega)⟩, fun h5 => ?_, fun h5 => ?_⟩
      ·replace h5 : ¬ ((ar.getD k []) = (br.getD k [])) := h5
       exact ⟨rfl, rfl, congrArg V.b (propext ⟨fun h => Bool.noConfusion h, fun h => False.elim (h5 (by rw [h.2.2.1]))⟩), rfl⟩
      ·replace h5 : ¬ (¬ ((ar.getD k []) = (br.getD k []))) := h5
       have hnx := take_next (d := []) hka hkb hc1_1 (Classical.not_not.1 h5)
       refine ⟨(r64 ((k : Int) + 1)), ?_⟩
       exact ⟨rfl, ar.length - (k + 1), by omega, k + 1, by omega, hnx, rfl, rfl, rfl⟩
     ·replace h4 : ¬ ((k : Int) < (ar.length : Int)) := h4
      have hr : ar = br := take_done (by omega) (by omega) hc1_1
      refine ⟨2, [(2, .k), (3, .k), (7, .k)], fun nM vs H => ∃ (j : Nat), j ≤ av.length ∧ av.take j = bv.take j ∧ nM = av.length - j ∧ vs = [.ptr 0 1 0 0, .ptr 1 1 0 0, .int .i64 (j : Int)] ∧ H = [.cells [.int .i64 ah, .str sa, .sl false (.sl .str) ar, .sl false (.sl (.sl .str)) av], .cells [.int .i64 bh, .str sb, .sl false (.sl .str) br, .sl false (.sl (.sl .str)) bv]], ⟨rfl, av.length, 0, by omega, rfl, by omega, rfl, rfl⟩, ?_⟩
      rintro nM vs H ⟨j, hc2_0, hc2_1, rfl, rfl, rfl⟩
      refine ⟨fun h6 => ?_, fun h6 => ?_⟩
      ·replace h6 : (j : Int) < (av.length : Int) := h6
       have hja : j < av.length := by omega
       have hjb : j < bv.length := by omega
       obtain ⟨lc, lc2⟩ := hp6 _ (gmem [] av j hja)
       obtain ⟨ld, ld2⟩ := hp7 _ (gmem [] bv j hjb)
       refine ⟨by kernel_rfl, (i0 (j : Int) (av.length : Int)), (i0 (j : Int) (bv.length : Int)), fun h7 => ?_, fun h7 => ?_⟩
       ·replace h7 : (((av.getD j []).length : Nat) : Int) ≠ (((bv.getD j []).length : Nat) : Int) := h7
        exact ⟨rfl, rfl, congrArg V.b (propext ⟨fun h => Bool.noConfusion h, fun h => False.elim (h7 (by rw [h.2.2.2]))⟩), rfl⟩
       ·replace h7 : ¬ ((((av.getD j []).length : Nat) : Int) ≠ (((bv.getD j []).length : Nat) : Int)) := h7
        refine ⟨2, [(2, .k), (3, .k), (7, .k), (8, .k)], fun nM vs H => ∃ (i : Nat), i ≤ (av.getD j []).length ∧ (av.getD j []).take i = (bv.getD j []).take i ∧ nM = (av.getD j []).length - i ∧ vs = [.ptr 0 1 0 0, .ptr 1 1 0 0, .int .i64 (j : Int), .int .i64 (i : Int)] ∧ H = [.cells [.int .i64 ah, .str sa, .sl false (.sl .str) ar, .sl false (.sl (.sl .str)) av], .cells [.int .i64 bh, .str sb, .sl false (.sl .str) br, .sl false (.sl (.sl .str)) bv]], ⟨rfl, (av.getD j []).length, 0, by omega, rfl, by omega, rfl, rfl⟩, ?_⟩
        rintro nM vs H ⟨i, hc3_0, hc3_1, rfl, rfl, rfl⟩
        refine ⟨(i0 (j : Int) (av.length : Int)), fun h8 => ?_, fun h8 => ?_⟩
        ·replace h8 : (i : Int) < (((av.getD j []).length : Nat) : Int) := h8
         have hia : i < (av.getD j []).length := by omega
         have hib : i < (bv.getD j []).length := by omega
         have le_ := lc2 _ (gmem [] _ i hia)
         have lf_ := ld2 _ (gmem [] _ i hib)
         refine ⟨by kernel_rfl, (i0 (j : Int) (av.length : Int)), (i0 (i : Int) ((av.getD j []).length : Int)), (i0 (j : Int) (bv.length : Int)), (i0 (i : Int) ((bv.getD j []).length : Int)), ⟨by show ((av.getD j []).getD i []).length ≤ 1048576; first | omega | assumption | (simp only [List.length_cons, List.length_nil, List.length_append, List.length_take, List.length_drop, List.length_set, List.length_replicate]; omega), by show ((bv.getD j []).getD i []).length ≤ 1048576; first | omega | assumption | (simp only [List.length_cons, List.length_nil, List.length_append, List.length_take, List.length_drop, List.length_set, List.length_replicate]; omega)⟩, fun h9 => ?_, fun h9 => ?_⟩
         ·replace h9 : ¬ (((av.getD j []).getD i []) = ((bv.getD j []).getD i [])) := h9
          exact ⟨rfl, rfl, congrArg V.b (propext ⟨fun h => Bool.noConfusion h, fun h => False.elim (h9 (by rw [h.2.2.2]))⟩), rfl⟩
         ·replace h9 : ¬ (¬ (((av.getD j []).getD i []) = ((bv.getD j []).getD i []))) := h9
          have hny := take_next (d := []) hia hib hc3_1 (Classical.not_not.1 h9)
          refine ⟨(r64 ((i : Int) + 1)), ?_⟩
          exact ⟨rfl, (av.getD j []).length - (i + 1), by omega, i + 1, by omega, hny, rfl, rfl, rfl⟩
        ·replace h8 : ¬ ((i : Int) < (((av.getD j []).length : Nat) : Int)) := h8
         have hnz := take_next (d := []) hja hjb hc2_1 (take_done (by omega) (by omega) hc3_1)
         refine ⟨(r64 ((j : Int) + 1)), ?_⟩
         exact ⟨rfl, av.length - (j + 1), by omega, j + 1, by omega, hnz, rfl, rfl, rfl⟩
      ·replace h6 : ¬ ((j : Int) < (av.length : Int)) := h6
       exact ⟨rfl, rfl, congrArg V.b (propext ⟨fun _ => ⟨Classical.not_not.1 h0, Classical.not_not.1 h1, hr, take_done (by omega) (by omega) hc2_1⟩, fun _ => rfl⟩), rfl⟩
   ·replace h2 : (ar.length : Int) ≠ (br.length : Int) := h2
    exact ⟨rfl, rfl, congrArg V.b (propext ⟨fun h => Bool.noConfusion h, fun h => False.elim (h2 (by rw [h.2.2.1]))⟩), rfl⟩
  ·replace h1 : sa ≠ sb := h1
   exact ⟨rfl, rfl, congrArg V.b (propext ⟨fun h => Bool.noConfusion h, fun h => False.elim (h1 h.2.1)⟩), rfl⟩
 ·replace h0 : ah ≠ bh := h0
  exact ⟨rfl, rfl, congrArg V.b (propext ⟨fun h => Bool.noConfusion h, fun h => False.elim (h0 h.1)⟩), rfl⟩
noncomputable def CSSt : List (Nat × Con) := (13, pureC [.v (.cons (.int .i64) (.cons .str (.cons (.sl (.sl .str)) (.cons (.sl (.sl (.sl .str))) .nil)))), .v (.cons (.int .i64) (.cons .str (.cons (.sl (.sl .str)) (.cons (.sl (.sl (.sl .str))) .nil))))] sSSt) :: CSMl
theorem kSSt : Known Tryd.prog (En CSSt tys G6 []) := kSMl.add Tryd.func13 Tryd.call13 [.k] fun ds p v bs h hp => by
 unfold sSSt at h
 split at h <;> simp only [Option.some.injEq, Prod.mk.injEq, reduceCtorEq] at h
 obtain ⟨rfl, rfl, rfl⟩ := h
 exact bSSt _ _ _ _ _ _ _ _ hp.1 hp.2.1 hp.2.2.1 hp.2.2.2.1 hp.2.2.2.2.1 hp.2.2.2.2.2.1 hp.2.2.2.2.2.2.1 hp.2.2.2.2.2.2.2
end Go.Proofs.YtpfehhcljeagoaaDoor.S28c

namespace Go.Proofs.YtpfehhcljeagoaaDoor.S28c
open Go Go.Proofs.YtpfehhcljeagoaaDoor.Vc Go.Proofs
set_option maxRecDepth 100000
set_option linter.unusedVariables false
open Go.Proofs.YtpfehhcljeagoaaDoor.S28
noncomputable def sSz1 : List V → Option (Prop × V × List Blk)
 | [.str s, .rp false (.int .i64) z 0] => some (True, .b ((s.length : Int) ≠ z), [])
 | _ => none
set_option maxHeartbeats 1000000 in
theorem bSz1 (s : List UInt8) (z : Int)  : bodyP (En CSSt tys G6 []) Tryd.f45 [.k] [.str s, .rp false (.int .i64) z 0] (.b ((s.length : Int) ≠ z)) [] := by
 exact ⟨rfl, rfl, rfl, rfl⟩
noncomputable def CSz1 : List (Nat × Con) := (45, pureC [.v .str, .ref (.int .i64)] sSz1) :: CSSt
theorem kSz1 : Known Tryd.prog (En CSz1 tys G6 []) := kSSt.add Tryd.func45 Tryd.call45 [.k] fun ds p v bs h hp => by
 unfold sSz1 at h
 split at h <;> simp only [Option.some.injEq, Prod.mk.injEq, reduceCtorEq] at h
 obtain ⟨rfl, rfl, rfl⟩ := h
 exact bSz1 _ _
set_option maxHeartbeats 1000000 in
theorem bIxS0 (s : List (List UInt8)) (z : Int) (hp0 : s.length ≤ 1048576) : bodyP (En CSz1 tys G6 []) Tryd.f50 [.k] [.sl false .str s, .fn 45 [.rp false (.int .i64) z 0]] (.int .i64 (ixP (fun x : List UInt8 => decide ((x.length : Int) ≠ z)) s 0)) [] := by
 refine ⟨0, [(0, .k), (1, .k), (7, .k), (8, .k)], fun nM vs H => ∃ (j : Nat), j ≤ s.length ∧ ixP (fun x : List UInt8 => decide ((x.length : Int) ≠ z)) (s.drop j) j = ixP (fun x : List UInt8 => decide ((x.length : Int) ≠ z)) s 0 ∧ nM = s.length - j ∧ vs = [.sl false .str s, .fn 45 [.rp false (.int .i64) z 0], .int .i64 (s.length : Int), .int .i64 (j : Int)] ∧ H = [], ⟨rfl, s.length, 0, by omega, rfl, by omega, rfl, rfl⟩, ?_⟩
 rintro nM vs H ⟨j, hc1_0, hc1_1, rfl, rfl, rfl⟩
 refine ⟨fun h0 => ?_, fun h0 => ?_⟩
 ·replace h0 : (j : Int) < (s.length : Int) := h0
  have hj : j < s.length := by omega
  rw [drop_one [] s j hj, ixP] at hc1_1
  refine ⟨(i0 (j : Int) (s.length : Int)), trivial, fun h1 => ?_, fun h1 => ?_⟩
  ·replace h1 : ((s.getD j []).length : Int) ≠ z := h1
   rw [if_pos (decide_eq_true h1)] at hc1_1
   rw [← hc1_1]
   exact ⟨rfl, rfl, rfl, rfl⟩
  ·replace h1 : ¬ (((s.getD j []).length : Int) ≠ z) := h1
   rw [if_neg (by simpa using h1)] at hc1_1
   refine ⟨(r64 ((j : Int) + 1)), ?_⟩
   exact ⟨rfl, s.length - (j + 1), by omega, j + 1, by omega, hc1_1, rfl, rfl, rfl⟩
 ·replace h0 : ¬ ((j : Int) < (s.length : Int)) := h0
  rw [List.drop_eq_nil_of_le (by omega), ixP] at hc1_1
  rw [← hc1_1]
  exact ⟨rfl, rfl, rfl, rfl⟩
noncomputable def sIxS : List V → Option (Prop × V × List Blk)
 | [.sl false .str s, .fn 45 [.rp false (.int .i64) z 0]] => some (s.length ≤ 1048576, .int .i64 (ixP (fun x : List UInt8 => decide ((x.length : Int) ≠ z)) s 0), [])
 | _ => none
noncomputable def CIxS : List (Nat × Con) := (50, pureC [.v (.sl .str), .fn [(45, [.ref (.int .i64)])]] sIxS) :: CSz1
theorem kIxS : Known Tryd.prog (En CIxS tys G6 []) := kSz1.add Tryd.func50 Tryd.call50 [.k] fun ds p v bs h hp => by
 unfold sIxS at h
 split at h <;> simp only [Option.some.injEq, Prod.mk.injEq, reduceCtorEq] at h
 ·obtain ⟨rfl, rfl, rfl⟩ := h
  exact bIxS0 _ _ hp
set_option maxHeartbeats 1000000 in
theorem bCfS0 (s : List (List UInt8)) (z : Int) (hp0 : s.length ≤ 1048576) : bodyP (En CIxS tys G6 []) Tryd.f44 [.k] [.sl false .str s, .fn 45 [.rp false (.int .i64) z 0]] (.b (∃ x ∈ s, (x.length : Int) ≠ z)) [] := by
 refine ⟨by show s.length ≤ 1048576; first | omega | assumption, ?_⟩
 exact ⟨rfl, rfl, congrArg V.b (propext (ixP_isG (fun x : List UInt8 => decide ((x.length : Int) ≠ z)) s fun x => decide_eq_true_iff)), rfl⟩
noncomputable def sCfS : List V → Option (Prop × V × List Blk)
 | [.sl false .str s, .fn 45 [.rp false (.int .i64) z 0]] => some (s.length ≤ 1048576, .b (∃ x ∈ s, (x.length : Int) ≠ z), [])
 | _ => none
noncomputable def CCfS : List (Nat × Con) := (44, pureC [.v (.sl .str), .fn [(45, [.ref (.int .i64)])]] sCfS) :: CIxS
theorem kCfS : Known Tryd.prog (En CCfS tys G6 []) := kIxS.add Tryd.func44 Tryd.call44 [.k] fun ds p v bs h hp => by
 unfold sCfS at h
 split at h <;> simp only [Option.some.injEq, Prod.mk.injEq, reduceCtorEq] at h
 ·obtain ⟨rfl, rfl, rfl⟩ := h
  exact bCfS0 _ _ hp
noncomputable def sSzd : List V → Option (Prop × V × List Blk)
 | [.sl false .str l, .int .i64 n, .int .i64 z] => some (l.length ≤ 1048576, .b ((l.length : Int) = n ∧ ¬ ∃ x ∈ l, (x.length : Int) ≠ z), [])
 | _ => none
set_option maxHeartbeats 1000000 in
theorem bSzd (l : List (List UInt8)) (n : Int) (z : Int) (hp0 : l.length ≤ 1048576) : bodyP (En CCfS tys G6 []) Tryd.f30 [.k] [.sl false .str l, .int .i64 n, .int .i64 z] (.b ((l.length : Int) = n ∧ ¬ ∃ x ∈ l, (x.length : Int) ≠ z)) [] := by
 refine ⟨fun h0 => ?_, fun h0 => ?_⟩
 ·replace h0 : (l.length : Int) = n := h0
  refine ⟨rfl, by show l.length ≤ 1048576; first | omega | assumption, ?_⟩
  first | exact ⟨rfl, rfl, congrArg V.b (propext ⟨fun h => ⟨h0, h⟩, fun h => h.2⟩), rfl⟩ | exact ⟨rfl, rfl, congrArg V.b (propext ⟨fun h => Bool.noConfusion h, fun h => absurd h.1 h0⟩), rfl⟩
 ·replace h0 : ¬ ((l.length : Int) = n) := h0
  first | exact ⟨rfl, rfl, congrArg V.b (propext ⟨fun h => ⟨h0, h⟩, fun h => h.2⟩), rfl⟩ | exact ⟨rfl, rfl, congrArg V.b (propext ⟨fun h => Bool.noConfusion h, fun h => absurd h.1 h0⟩), rfl⟩
noncomputable def CSzd : List (Nat × Con) := (30, pureC [.v (.sl .str), .v (.int .i64), .v (.int .i64)] sSzd) :: CCfS
theorem kSzd : Known Tryd.prog (En CSzd tys G6 []) := kCfS.add Tryd.func30 Tryd.call30 [.k] fun ds p v bs h hp => by
 unfold sSzd at h
 split at h <;> simp only [Option.some.injEq, Prod.mk.injEq, reduceCtorEq] at h
 obtain ⟨rfl, rfl, rfl⟩ := h
 exact bSzd _ _ _ hp
end Go.Proofs.YtpfehhcljeagoaaDoor.S28c

namespace Go.Proofs.YtpfehhcljeagoaaDoor.S28c
open Go Go.Proofs.YtpfehhcljeagoaaDoor.Vc Go.Proofs Go.Proofs.YtpfehhcljeagoaaDoor.S28
set_option maxRecDepth 100000
/-- The other houses, with their places. -/
def oth (x : Int) : Nat → List Int → List (Int × Int)
 | _, [] => []
 | k, h :: l => if h = x then oth x (k + 1) l else ((k : Int), h) :: oth x (k + 1) l
theorem oth_len (x : Int) : ∀ (l : List Int) (k : Nat), (oth x k l).length ≤ l.length
 | [], k => by simp [oth]
 | h :: l, k => by
  rw [oth]
  have := oth_len x l (k + 1)
  split <;> simp <;> omega
theorem oth_mem {x : Int} {p : Int × Int} : ∀ (l : List Int) (k : Nat), p ∈ oth x k l → ∃ i : Nat, i < l.length ∧ p.1 = ((k + i : Nat) : Int) ∧ p.2 = l.getD i 0 ∧ p.2 ≠ x
 | [], k, h => by simp [oth] at h
 | a :: l, k, h => by
  rw [oth] at h
  split at h
  ·obtain ⟨i, h1, h2, h3, h4⟩ := oth_mem l (k + 1) h
   exact ⟨i + 1, by simpa using h1, by rw [h2, show k + 1 + i = k + (i + 1) by omega], by rw [h3]; rfl, h4⟩
  ·rename_i hne
   rcases List.mem_cons.1 h with rfl | h
   ·exact ⟨0, by simp, rfl, rfl, hne⟩
   ·obtain ⟨i, h1, h2, h3, h4⟩ := oth_mem l (k + 1) h
    exact ⟨i + 1, by simpa using h1, by rw [h2, show k + 1 + i = k + (i + 1) by omega], by rw [h3]; rfl, h4⟩
abbrev Ml := Int × (Int × (Int × (Int × (List (List UInt8) × Unit))))
/-- What one house is asked to compare. -/
def cmp1 (hs : List Int) (me : Int) (r : List (List UInt8)) (d : Int) (k : Nat) : List Ml := ((oth me 0 hs).take k).map fun p => (2, (me, (p.2, (d, ([valS r p.2], ())))))
theorem cmp1_snoc {hs : List Int} {me : Int} {r : List (List UInt8)} {d : Int} {k : Nat} (h : k < (oth me 0 hs).length) : cmp1 hs me r d (k + 1) = cmp1 hs me r d k ++ [(2, (me, (((oth me 0 hs).getD k (0, 0)).2, (d, ([valS r ((oth me 0 hs).getD k (0, 0)).2], ())))))] := by
 unfold cmp1
 rw [map_take_snoc (0, 0) _ _ k h]
theorem cmp1_app {A : List Ml} {hs : List Int} {me : Int} {r : List (List UInt8)} {d : Int} {k : Nat} (h : k < (oth me 0 hs).length) : A ++ cmp1 hs me r d (k + 1) = A ++ cmp1 hs me r d k ++ [(2, (me, (((oth me 0 hs).getD k (0, 0)).2, (d, ([valS r ((oth me 0 hs).getD k (0, 0)).2], ())))))] := by
 rw [cmp1_snoc h, List.append_assoc]
theorem cmp1_len (hs : List Int) (me : Int) (r : List (List UInt8)) (d : Int) (k : Nat) : (cmp1 hs me r d k).length ≤ hs.length := by
 unfold cmp1
 rw [List.length_map, List.length_take]
 have := oth_len me hs 0
 omega
def cmpK (hs : List Int) (me : Int) (rows : List (List (List UInt8))) : Nat → List Ml
 | 0 => []
 | k + 1 => cmpK hs me rows k ++ (if (rows.getD k []).length = 0 then [] else cmp1 hs me (rows.getD k []) (hs.getD k 0) (oth me 0 hs).length)
theorem cmpK_len (hs : List Int) (me : Int) (rows : List (List (List UInt8))) : ∀ k, (cmpK hs me rows k).length ≤ k * hs.length
 | 0 => by simp [cmpK]
 | k + 1 => by
  rw [cmpK, List.length_append, Nat.succ_mul]
  have := cmpK_len hs me rows k
  split
  ·simp; omega
  ·have := cmp1_len hs me (rows.getD k []) (hs.getD k 0) (oth me 0 hs).length
   omega
/-- Who agrees, of so many others. -/
def agB (vals : List (List (List UInt8))) (r : List (List UInt8)) (l : List (Int × Int)) (a : Int) : Int :=
 l.foldl (fun a p => if 0 < (vals.getD p.1.toNat []).length ∧ (vals.getD p.1.toNat []).getD 0 [] = valS r p.2 then nxt a p.2 else a) a
theorem agB_snoc (vals : List (List (List UInt8))) (r : List (List UInt8)) {l : List (Int × Int)} (a : Int) {k : Nat} (h : k < l.length) : agB vals r (l.take (k + 1)) a =
  (if 0 < (vals.getD (l.getD k (0, 0)).1.toNat []).length ∧ (vals.getD (l.getD k (0, 0)).1.toNat []).getD 0 [] = valS r (l.getD k (0, 0)).2 then nxt (agB vals r (l.take k) a) (l.getD k (0, 0)).2 else agB vals r (l.take k) a) := by
 unfold agB
 rw [takeD (0, 0) l k h, List.foldl_append]
 rfl
theorem agB_bd (vals : List (List (List UInt8))) (r : List (List UInt8)) : ∀ (l : List (Int × Int)) (a : Int), 0 ≤ a → a < 4096 → (∀ p ∈ l, 0 ≤ p.2 ∧ p.2 < 12) → 0 ≤ agB vals r l a ∧ agB vals r l a < 4096
 | [], a, h0, h1, _ => ⟨h0, h1⟩
 | p :: l, a, h0, h1, hl => by
  have hp := hl p (by simp)
  rw [agB, List.foldl_cons]
  split
  ·have := nxt_lt h0 h1 hp.1 hp.2
   exact agB_bd vals r l _ this.1 this.2 fun q hq => hl q (by simp [hq])
  ·exact agB_bd vals r l _ h0 h1 fun q hq => hl q (by simp [hq])
def pst1 (hs : List Int) (me : Int) (rows : List (List (List UInt8))) (vals : List (List (List (List UInt8)))) (k : Nat) : Int :=
 if (rows.getD k []).length = 0 then 0 else agB (vals.getD k []) (rows.getD k []) (oth me 0 hs) (1 * 2 ^ me.toNat)
/-- So many places are filled, the others are as at first. -/
def fil {α : Type} (d : α) (f : Nat → α) (n k : Nat) : List α := (List.range n).map fun i => if i < k then f i else d
theorem fil_len {α : Type} (d : α) (f : Nat → α) (n k : Nat) : (fil d f n k).length = n := by rw [fil, List.length_map, List.length_range]
theorem fil_set {α : Type} {d : α} {f : Nat → α} {n k : Nat} (h : k < n) : (fil d f n k).set k (f k) = fil d f n (k + 1) := by
 apply List.ext_getElem
 ·rw [List.length_set, fil_len, fil_len]
 ·intro i h1 h2
  simp only [fil, List.getElem_set, List.getElem_map, List.getElem_range]
  by_cases e : k = i
  ·subst e; rw [if_pos rfl, if_pos (by omega)]
  ·rw [if_neg e]
   by_cases g : i < k
   ·rw [if_pos g, if_pos (by omega)]
   ·rw [if_neg g, if_neg (by omega)]
theorem fil_zero {α : Type} (d : α) (f : Nat → α) (n : Nat) : fil d f n 0 = List.replicate n d := by
 rw [fil, show (fun i => if i < 0 then f i else d) = fun _ => d from rfl, List.map_const', List.length_range]
theorem fil_all {α : Type} (d : α) (f : Nat → α) (n : Nat) : fil d f n n = (List.range n).map f := by
 unfold fil
 exact List.map_congr_left fun i hi => if_pos (List.mem_range.1 hi)
theorem fil_same {α : Type} {d : α} {f : Nat → α} {n k : Nat} (h : f k = d) : fil d f n (k + 1) = fil d f n k := by
 unfold fil
 refine List.map_congr_left fun i _ => ?_
 by_cases g : i < k
 ·rw [if_pos g, if_pos (by omega)]
 ·rw [if_neg g]
  by_cases e : i = k
  ·subst e; rw [if_pos (by omega), h]
  ·rw [if_neg (by omega)]
def pstL (hs : List Int) (me : Int) (rows : List (List (List UInt8))) (vals : List (List (List (List UInt8)))) : List Int := (List.range hs.length).map (pst1 hs me rows vals)
/-- What comes in is of no use. -/
def rcvN (hs : List Int) (st me f t d tick : Int) : Prop := t ≠ me ∨ f = me ∨ idxF f hs 0 < 0 ∨ idxF d hs 0 < 0 ∨ tick < st
instance (hs : List Int) (st me f t d tick : Int) : Decidable (rcvN hs st me f t d tick) := by unfold rcvN; infer_instance
def szdP (l : List (List UInt8)) (n z : Int) : Prop := (l.length : Int) = n ∧ ¬ ∃ x ∈ l, (x.length : Int) ≠ z
instance (l : List (List UInt8)) (n z : Int) : Decidable (szdP l n z) := by unfold szdP; infer_instance
def rcvP (hs : List Int) (nd sz st ph me : Int) (rows : List (List (List UInt8))) (mk f t d : Int) (ss : List (List UInt8)) (tick : Int) : Prop :=
 ¬ rcvN hs st me f t d tick ∧ mk = 1 ∧ f = d ∧ (rows.getD (idxF d hs 0).toNat []).length = 0 ∧ szdP ss (nd - 1) sz ∧ tick < st + ph
instance (hs : List Int) (nd sz st ph me : Int) (rows : List (List (List UInt8))) (mk f t d : Int) (ss : List (List UInt8)) (tick : Int) : Decidable (rcvP hs nd sz st ph me rows mk f t d ss tick) := by unfold rcvP; infer_instance
def rcvR (hs : List Int) (nd sz st ph me : Int) (rows : List (List (List UInt8))) (mk f t d : Int) (ss : List (List UInt8)) (tick : Int) : List (List (List UInt8)) :=
 if rcvP hs nd sz st ph me rows mk f t d ss tick then rows.set (idxF d hs 0).toNat ss else rows
def rcvQ (hs : List Int) (sz st ph me : Int) (vals : List (List (List (List UInt8)))) (mk f t d : Int) (ss : List (List UInt8)) (tick : Int) : Prop :=
 ¬ rcvN hs st me f t d tick ∧ mk = 2 ∧ ((vals.getD (idxF d hs 0).toNat []).getD (idxF f hs 0).toNat []).length = 0 ∧ szdP ss 1 sz ∧ tick < st + 2 * ph
instance (hs : List Int) (sz st ph me : Int) (vals : List (List (List (List UInt8)))) (mk f t d : Int) (ss : List (List UInt8)) (tick : Int) : Decidable (rcvQ hs sz st ph me vals mk f t d ss tick) := by unfold rcvQ; infer_instance
def rcvV (hs : List Int) (sz st ph me : Int) (vals : List (List (List (List UInt8)))) (mk f t d : Int) (ss : List (List UInt8)) (tick : Int) : List (List (List (List UInt8))) :=
 if rcvQ hs sz st ph me vals mk f t d ss tick then vals.set (idxF d hs 0).toNat ((vals.getD (idxF d hs 0).toNat []).set (idxF f hs 0).toNat ss) else vals
theorem idx_lt {hs : List Int} {x : Int} (h : ¬ idxF x hs 0 < 0) : (idxF x hs 0).toNat < hs.length := by
 have hm := (idxF_mem x hs 0 (by omega)).1 (by omega)
 exact (pos_of hm).2.1
/-- How Begin ends. -/
def begE (hs : List Int) (nd wr sz st ph me : Int) (sh nz : List UInt8) : Int :=
 if tkE hs nd wr sz st ph = 0 then (if idxF me hs 0 < 0 then 8 else if mkE nd sz nz = 0 ∧ (sh.length : Int) = sz then 0 else 1) else tkE hs nd wr sz st ph
def begH (hs : List Int) (nd wr sz st ph me : Int) (sh nz : List UInt8) : Int := if begE hs nd wr sz st ph me sh nz = 0 then me else 0
def begS (hs : List Int) (nd wr sz st ph me : Int) (sh nz : List UInt8) : List UInt8 := if begE hs nd wr sz st ph me sh nz = 0 then sh else []
def begR (hs : List Int) (nd wr sz st ph me : Int) (sh nz : List UInt8) : List (List (List UInt8)) :=
 if begE hs nd wr sz st ph me sh nz = 0 then (List.replicate hs.length []).set (idxF me hs 0).toNat (rowL (mkN nd sz nz) (mkC nd sz nz) me) else []
def begV (hs : List Int) (nd wr sz st ph me : Int) (sh nz : List UInt8) : List (List (List (List UInt8))) :=
 if begE hs nd wr sz st ph me sh nz = 0 then List.replicate hs.length (List.replicate hs.length []) else []
def beg1 (hs : List Int) (nd sz me : Int) (nz : List UInt8) (k : Nat) : List Ml := ((oth me 0 hs).take k).map fun p => (1, (me, (p.2, (me, (rowL (mkN nd sz nz) (mkC nd sz nz) p.2, ())))))
theorem beg1_snoc {hs : List Int} {nd sz me : Int} {nz : List UInt8} {k : Nat} (h : k < (oth me 0 hs).length) : beg1 hs nd sz me nz (k + 1) = beg1 hs nd sz me nz k ++ [(1, (me, (((oth me 0 hs).getD k (0, 0)).2, (me, (rowL (mkN nd sz nz) (mkC nd sz nz) ((oth me 0 hs).getD k (0, 0)).2, ())))))] := by
 unfold beg1
 rw [map_take_snoc (0, 0) _ _ k h]
theorem beg1_len (hs : List Int) (nd sz me : Int) (nz : List UInt8) (k : Nat) : (beg1 hs nd sz me nz k).length ≤ hs.length := by
 unfold beg1
 rw [List.length_map, List.length_take]
 have := oth_len me hs 0
 omega
def begM (hs : List Int) (nd wr sz st ph me : Int) (sh nz : List UInt8) : List Ml :=
 if begE hs nd wr sz st ph me sh nz = 0 then beg1 hs nd sz me nz (oth me 0 hs).length else []
theorem fil_const {α : Type} (d x : α) (n : Nat) : fil d (fun _ => x) n n = List.replicate n x := by rw [fil_all, List.map_const', List.length_range]
theorem beg_err {hs : List Int} {nd wr sz st ph me : Int} {sh nz : List UInt8} (h : begE hs nd wr sz st ph me sh nz ≠ 0) :
  begH hs nd wr sz st ph me sh nz = 0 ∧ begS hs nd wr sz st ph me sh nz = [] ∧ begR hs nd wr sz st ph me sh nz = [] ∧ begV hs nd wr sz st ph me sh nz = [] ∧ begM hs nd wr sz st ph me sh nz = [] :=
 ⟨if_neg h, if_neg h, if_neg h, if_neg h, if_neg h⟩
theorem beg_ok {hs : List Int} {nd wr sz st ph me : Int} {sh nz : List UInt8} (h : begE hs nd wr sz st ph me sh nz = 0) :
  begH hs nd wr sz st ph me sh nz = me ∧ begS hs nd wr sz st ph me sh nz = sh ∧ begR hs nd wr sz st ph me sh nz = (List.replicate hs.length []).set (idxF me hs 0).toNat (rowL (mkN nd sz nz) (mkC nd sz nz) me) ∧ begV hs nd wr sz st ph me sh nz = List.replicate hs.length (List.replicate hs.length []) ∧ begM hs nd wr sz st ph me sh nz = beg1 hs nd sz me nz (oth me 0 hs).length :=
 ⟨if_pos h, if_pos h, if_pos h, if_pos h, if_pos h⟩
theorem mkC_mx (nd sz : Int) {nz : List UInt8} (h : nz.length ≤ 1048576) : (mkC nd sz nz).length ≤ 1048576 ∧ ∀ l ∈ mkC nd sz nz, l.length ≤ 1048576 ∧ ∀ x ∈ l, x.length ≤ 1048576 := by
 unfold mkC
 split
 ·rename_i h0
  have hn : ¬ (nd < 2 ∨ 12 < nd ∨ sz < 0 ∨ 4096 < sz) := fun g => by unfold mkE at h0; rw [if_pos g] at h0; cases h0
  unfold mkD
  refine ⟨by rw [List.length_map, List.length_range]; omega, fun l hl => ?_⟩
  obtain ⟨a, _, rfl⟩ := List.mem_map.1 hl
  refine ⟨by rw [List.length_map, List.length_range]; omega, fun x hx => ?_⟩
  obtain ⟨b, _, rfl⟩ := List.mem_map.1 hx
  rw [List.length_take, dn_len]; omega
 ·exact ⟨Nat.zero_le _, fun l hl => by cases hl⟩
end Go.Proofs.YtpfehhcljeagoaaDoor.S28c

namespace Go.Proofs.YtpfehhcljeagoaaDoor.S28c
open Go Go.Proofs.YtpfehhcljeagoaaDoor.Vc Go.Proofs
set_option maxRecDepth 100000
set_option linter.unusedVariables false
open Go.Proofs.YtpfehhcljeagoaaDoor.S28
noncomputable def sOth : List V → Option (Prop × Nat × (Nat → List V))
 | [.rp false (.cons (.sl (.int .i64)) (.cons (.int .i64) (.cons (.int .i64) (.cons (.int .i64) (.cons (.int .i64) (.cons (.int .i64) .nil)))))) t 0, .rp false (.int .i64) x 0] => some (t.1.length ≤ 2000000, ((oth x 0 t.1).length, fun n => [.int .i64 (((oth x 0 t.1).getD n (0, 0)).1), .int .i64 (((oth x 0 t.1).getD n (0, 0)).2)]))
 | _ => none
set_option maxHeartbeats 1000000 in
theorem bOth (t : (List Int × (Int × (Int × (Int × (Int × (Int × Unit))))))) (x : Int) (hp0 : t.1.length ≤ 2000000) : bodyS (En CSzd tys G6 []).inR Tryd.f43 [.rp false (.cons (.sl (.int .i64)) (.cons (.int .i64) (.cons (.int .i64) (.cons (.int .i64) (.cons (.int .i64) (.cons (.int .i64) .nil)))))) t 0, .rp false (.int .i64) x 0] [.v (.int .i64), .v (.int .i64)] ((oth x 0 t.1).length, fun n => [.int .i64 (((oth x 0 t.1).getD n (0, 0)).1), .int .i64 (((oth x 0 t.1).getD n (0, 0)).2)]) := by
 refine ⟨rfl, 0, [(0, .k), (2, .k), (7, .k), (8, .k), (9, .k)], fun nM vs H => ∃ (k q : Nat), k ≤ (oth x 0 t.1).length ∧ (oth x 0 t.1).drop k = oth x q (t.1.drop q) ∧ nM = t.1.length - q ∧ vs = [.yld (some k), .rp false (.int .i64) x 0, .sl false (.int .i64) t.1, .int .i64 (t.1.length : Int), .int .i64 (q : Int)] ∧ H = [], ⟨rfl, t.1.length, 0, 0, by omega, rfl, by omega, rfl, rfl⟩, ?_⟩
 rintro nM vs H ⟨k, q, hc1_0, hc1_1, rfl, rfl, rfl⟩
 refine ⟨fun h0 => ?_, fun h0 => ?_⟩
 ·replace h0 : (q : Int) < (t.1.length : Int) := h0
  have hq : q < t.1.length := by omega
  rw [drop_one 0 t.1 q hq, oth] at hc1_1
  refine ⟨(i0 (q : Int) (t.1.length : Int)), fun h1 => ?_, fun h1 => ?_⟩
  ·replace h1 : (t.1.getD q 0) ≠ x := h1
   rw [if_neg h1] at hc1_1
   obtain ⟨y1, y2, y3⟩ := drop_cons (d := (0, 0)) hc1_1
   refine ⟨rfl, rfl, ⟨y1, by show [V.int .i64 (q : Int), V.int .i64 (t.1.getD q 0)] = [V.int .i64 ((oth x 0 t.1).getD k (0, 0)).1, V.int .i64 ((oth x 0 t.1).getD k (0, 0)).2]; rw [y2]⟩, ?_, ?_⟩
   ·refine ⟨(r64 ((q : Int) + 1)), ?_⟩
    exact ⟨rfl, t.1.length - (q + 1), by omega, k + 1, q + 1, by omega, y3, rfl, rfl, rfl⟩
   ·trivial
  ·replace h1 : ¬ ((t.1.getD q 0) ≠ x) := h1
   rw [if_pos (Classical.not_not.1 h1)] at hc1_1
   have y3 := hc1_1
   refine ⟨(r64 ((q : Int) + 1)), ?_⟩
   exact ⟨rfl, t.1.length - (q + 1), by omega, k, q + 1, by omega, y3, rfl, rfl, rfl⟩
 ·replace h0 : ¬ ((q : Int) < (t.1.length : Int)) := h0
  rw [show t.1.drop q = [] from List.drop_eq_nil_of_le (by omega), show oth x q [] = [] from rfl] at hc1_1
  have hz := drop_nil hc1_0 hc1_1
  show (k : Nat) = (oth x 0 t.1).length
  omega
noncomputable def QOth : List (Nat × SeqC) := (43, [.ref (.cons (.sl (.int .i64)) (.cons (.int .i64) (.cons (.int .i64) (.cons (.int .i64) (.cons (.int .i64) (.cons (.int .i64) .nil)))))), .ref (.int .i64)], sOth) :: []
noncomputable def COth : List (Nat × Con) := CSzd
theorem kOth : Known Tryd.prog (En COth tys G6 QOth) := kSzd.addSeq Tryd.func43 Tryd.call43 [.v (.int .i64), .v (.int .i64)] fun ds p L h hp => by
 unfold sOth at h
 split at h <;> simp only [Option.some.injEq, Prod.mk.injEq, reduceCtorEq] at h
 obtain ⟨rfl, rfl⟩ := h
 exact bOth _ _ hp
noncomputable def sOts : List V → Option (Prop × V × List Blk)
 | [.agg [.sl false (.int .i64) hs, .int .i64 nd, .int .i64 wr, .int .i64 sz, .int .i64 st, .int .i64 ph], .int .i64 x] => some (True, .fn 43 [.ptr 0 1 0 0, .ptr 1 1 0 0], [.cells [.sl false (.int .i64) (hs), .int .i64 (nd), .int .i64 (wr), .int .i64 (sz), .int .i64 (st), .int .i64 (ph)], .cells [.int .i64 (x)]])
 | _ => none
set_option maxHeartbeats 1000000 in
theorem bOts (hs : List Int) (nd : Int) (wr : Int) (sz : Int) (st : Int) (ph : Int) (x : Int)  : bodyI (En COth tys G6 QOth) Tryd.f28 [.c []] [.agg [.sl false (.int .i64) hs, .int .i64 nd, .int .i64 wr, .int .i64 sz, .int .i64 st, .int .i64 ph], .int .i64 x] (.fn 43 [.ptr 0 1 0 0, .ptr 1 1 0 0]) [.cells [.sl false (.int .i64) (hs), .int .i64 (nd), .int .i64 (wr), .int .i64 (sz), .int .i64 (st), .int .i64 (ph)], .cells [.int .i64 (x)]] := by
 exact ⟨rfl, rfl, rfl, rfl⟩
noncomputable def COts : List (Nat × Con) := (28, immC [.v (.cons (.sl (.int .i64)) (.cons (.int .i64) (.cons (.int .i64) (.cons (.int .i64) (.cons (.int .i64) (.cons (.int .i64) .nil)))))), .v (.int .i64)] sOts) :: COth
theorem kOts : Known Tryd.prog (En COts tys G6 QOth) := kOth.addI Tryd.func28 Tryd.call28 [.c []] fun ds p v bs h hp => by
 unfold sOts at h
 split at h <;> simp only [Option.some.injEq, Prod.mk.injEq, reduceCtorEq] at h
 obtain ⟨rfl, rfl, rfl⟩ := h
 exact bOts _ _ _ _ _ _ _
noncomputable def sClS : List V → Option (Prop × V × List Blk)
 | [.sl false .str s] => some (s.length ≤ 1048576, .own .str 0, [.row true .str (s)])
 | _ => none
set_option maxHeartbeats 1000000 in
theorem bClS (s : List (List UInt8)) (hp0 : s.length ≤ 1048576) : bodyP (En COts tys G6 QOth) Tryd.f31 [.o .str] [.sl false .str s] (.own .str 0) [.row true .str (s)] := by
 refine fun p0 hq0 => ?_
 refine ⟨fun h1 => ?_, fun h1 => ?_⟩
 ·replace h1 : p0 := h1
  have e := hq0 h1
  subst e
  exact ⟨rfl, rfl, rfl, rfl⟩
 ·replace h1 : ¬ p0 := h1
  refine ⟨⟨rfl, rfl⟩, by show ([] : List (List UInt8)).length + s.length ≤ 1000000000; simp only [List.length_cons, List.length_nil]; omega, ?_⟩
  exact ⟨rfl, rfl, rfl, rfl⟩
noncomputable def CClS : List (Nat × Con) := (31, pureC [.v (.sl .str)] sClS) :: COts
theorem kClS : Known Tryd.prog (En CClS tys G6 QOth) := kOts.add Tryd.func31 Tryd.call31 [.o .str] fun ds p v bs h hp => by
 unfold sClS at h
 split at h <;> simp only [Option.some.injEq, Prod.mk.injEq, reduceCtorEq] at h
 obtain ⟨rfl, rfl, rfl⟩ := h
 exact bClS _ hp
end Go.Proofs.YtpfehhcljeagoaaDoor.S28c

namespace Go.Proofs.YtpfehhcljeagoaaDoor.S28c
open Go Go.Proofs.YtpfehhcljeagoaaDoor.Vc Go.Proofs
set_option maxRecDepth 100000
set_option linter.unusedVariables false
open Go.Proofs.YtpfehhcljeagoaaDoor.S28
noncomputable def sCmp : List V → Option (Prop × V × List Blk)
 | [.agg [.sl false (.int .i64) hs, .int .i64 nd, .int .i64 wr, .int .i64 sz, .int .i64 st, .int .i64 ph], .agg [.int .i64 me, .str sh, .sl false (.sl .str) rows, .sl false (.sl (.sl .str)) vals]] => some (hs.length ≤ 1000 ∧ rows.length = hs.length ∧ (∀ x ∈ rows, x.length ≤ 1048576), .own (.cons (.int .i64) (.cons (.int .i64) (.cons (.int .i64) (.cons (.int .i64) (.cons (.sl .str) .nil))))) 0, [.row true (.cons (.int .i64) (.cons (.int .i64) (.cons (.int .i64) (.cons (.int .i64) (.cons (.sl .str) .nil))))) (cmpK hs me rows hs.length)])
 | _ => none
set_option maxHeartbeats 2000000 in
theorem bCmp (hs : List Int) (nd : Int) (wr : Int) (sz : Int) (st : Int) (ph : Int) (me : Int) (sh : List UInt8) (rows : List (List (List UInt8))) (vals : List (List (List (List UInt8)))) (hp0 : hs.length ≤ 1000) (hp1 : rows.length = hs.length) (hp2 : (∀ x ∈ rows, x.length ≤ 1048576)) : bodyP (En CClS tys G6 QOth [1000002, 8000046, 8000047]) Tryd.f15 [.o (.cons (.int .i64) (.cons (.int .i64) (.cons (.int .i64) (.cons (.int .i64) (.cons (.sl .str) .nil)))))] [.agg [.sl false (.int .i64) hs, .int .i64 nd, .int .i64 wr, .int .i64 sz, .int .i64 st, .int .i64 ph], .agg [.int .i64 me, .str sh, .sl false (.sl .str) rows, .sl false (.sl (.sl .str)) vals]] (.own (.cons (.int .i64) (.cons (.int .i64) (.cons (.int .i64) (.cons (.int .i64) (.cons (.sl .str) .nil))))) 0) [.row true (.cons (.int .i64) (.cons (.int .i64) (.cons (.int .i64) (.cons (.int .i64) (.cons (.sl .str) .nil))))) (cmpK hs me rows hs.length)] := by
 refine ⟨4, [(2, .k), (3, .k), (5, .c [(0, (.cons (.int .i64) (.cons (.int .i64) (.cons (.int .i64) (.cons (.int .i64) (.cons (.sl .str) .nil))))))]), (13, .k), (14, .k), (15, .k)], fun nM vs H => ∃ (k : Nat), k ≤ hs.length ∧ nM = hs.length - k ∧ vs = [.ptr 0 1 0 0, .ptr 1 1 0 0, .ptr 2 1 0 0, .sl false (.int .i64) hs, .int .i64 (hs.length : Int), .int .i64 (k : Int)] ∧ H = [.cells [.sl false (.int .i64) hs, .int .i64 nd, .int .i64 wr, .int .i64 sz, .int .i64 st, .int .i64 ph], .cells [.int .i64 me, .str sh, .sl false (.sl .str) rows, .sl false (.sl (.sl .str)) vals], .cells [.own (.cons (.int .i64) (.cons (.int .i64) (.cons (.int .i64) (.cons (.int .i64) (.cons (.sl .str) .nil))))) 3], .row true (.cons (.int .i64) (.cons (.int .i64) (.cons (.int .i64) (.cons (.int .i64) (.cons (.sl .str) .nil))))) (cmpK hs me rows k)], ⟨rfl, hs.length, 0, by omega, by omega, rfl, rfl⟩, ?_⟩
 rintro nM vs H ⟨k, hc1_0, rfl, rfl, rfl⟩
 refine ⟨fun h0 => ?_, fun h0 => ?_⟩
 ·replace h0 : (k : Int) < (hs.length : Int) := h0
  have hkl : k < hs.length := by omega
  have hkm := hp2 _ (gmem [] rows k (by omega))
  have hcl := cmpK_len hs me rows k
  have hcl2 : k * hs.length ≤ 1000000 := Nat.le_trans (Nat.mul_le_mul (show k ≤ 1000 by omega) hp0) (by omega)
  refine ⟨(i0 (k : Int) (hs.length : Int)), ⟨rfl, rfl, rfl⟩, ⟨rfl, rfl, rfl⟩, (i0 (k : Int) (rows.length : Int)), fun h1 => ?_, fun h1 => ?_⟩
  ·replace h1 : (((rows.getD k []).length : Nat) : Int) = 0 := h1
   have hst : cmpK hs me rows (k + 1) = cmpK hs me rows k := by rw [cmpK, if_pos (by omega), List.append_nil]
   refine ⟨(r64 ((k : Int) + 1)), ?_⟩
   exact ⟨rfl, hs.length - (k + 1), by omega, k + 1, by omega, rfl, rfl, by rw [hst]; rfl⟩
  ·replace h1 : ¬ ((((rows.getD k []).length : Nat) : Int) = 0) := h1
   have hst : cmpK hs me rows (k + 1) = cmpK hs me rows k ++ cmp1 hs me (rows.getD k []) (hs.getD k 0) (oth me 0 hs).length := by rw [cmpK, if_neg (by omega)]
   refine ⟨rfl, rfl, rfl, rfl, rfl, rfl, trivial, rfl, rfl, rfl, rfl, rfl, rfl, rfl, ⟨by show hs.length ≤ 2000000; first | omega | assumption, fun _ _ => rfl⟩, 6, [(2, .k), (3, .k), (5, .c [(0, (.cons (.int .i64) (.cons (.int .i64) (.cons (.int .i64) (.cons (.int .i64) (.cons (.sl .str) .nil))))))]), (6, .k), (7, .k), (13, .k), (14, .k), (15, .k)], fun n vs H => n ≤ (oth me 0 hs).length ∧ vs = [.ptr 0 1 0 0, .ptr 1 1 0 0, .ptr 2 1 0 0, .ptr 4 1 0 0, .ptr 5 1 0 0, .sl false (.int .i64) hs, .int .i64 (hs.length : Int), .int .i64 (k : Int)] ∧ H = [.cells [.sl false (.int .i64) hs, .int .i64 nd, .int .i64 wr, .int .i64 sz, .int .i64 st, .int .i64 ph], .cells [.int .i64 me, .str sh, .sl false (.sl .str) rows, .sl false (.sl (.sl .str)) vals], .cells [.own (.cons (.int .i64) (.cons (.int .i64) (.cons (.int .i64) (.cons (.int .i64) (.cons (.sl .str) .nil))))) 3], .row true (.cons (.int .i64) (.cons (.int .i64) (.cons (.int .i64) (.cons (.int .i64) (.cons (.sl .str) .nil))))) (cmpK hs me rows k ++ cmp1 hs me (rows.getD k []) (hs.getD k 0) n), .cells [.int .i64 (k : Int)], .cells [.int .i64 (hs.getD k 0)]], ⟨rfl, by omega, rfl, by rw [show cmp1 hs me (rows.getD k []) (hs.getD k 0) 0 = [] from rfl, List.append_nil]; rfl⟩, ?_, ?_⟩
   ·rintro n vs H ⟨hc2_0, rfl, rfl⟩ hn2
    replace hn2 : n < (oth me 0 hs).length := hn2
    have hl1 := cmp1_len hs me (rows.getD k []) (hs.getD k 0) n
    have hl2 : (cmpK hs me rows k ++ cmp1 hs me (rows.getD k []) (hs.getD k 0) n).length ≤ 1001000 := by rw [List.length_append]; omega
    refine ⟨(i0 (k : Int) (rows.length : Int)), rfl, by show (rows.getD k []).length ≤ 1048576; first | omega | assumption | (simp only [List.length_cons, List.length_nil, List.length_append, List.length_take, List.length_drop, List.length_set, List.length_replicate]; omega), rfl, rfl, rfl, rfl, ⟨rfl, rfl⟩, by show (cmpK hs me rows k ++ cmp1 hs me (rows.getD k []) (hs.getD k 0) n).length + ([(2, me, ((oth me 0 hs).getD n (0, 0)).2, hs.getD k 0, ([valS (rows.getD k []) (((oth me 0 hs).getD n (0, 0)).2)] : List (List UInt8)), ())] : List (Int × (Int × (Int × (Int × (List (List UInt8) × Unit)))))).length ≤ 1000000000; simp only [List.length_cons, List.length_nil]; omega, ⟨rfl, rfl, rfl⟩, ?_⟩
    exact ⟨rfl, rfl, by omega, rfl, by rw [cmp1_app hn2]; rfl⟩
   ·rintro vs H ⟨hc2_0, rfl, rfl⟩
    refine ⟨(r64 ((k : Int) + 1)), ?_⟩
    exact ⟨rfl, hs.length - (k + 1), by omega, k + 1, by omega, rfl, rfl, by rw [hst]; rfl⟩
 ·replace h0 : ¬ ((k : Int) < (hs.length : Int)) := h0
  rw [show cmpK hs me rows hs.length = cmpK hs me rows k by rw [show k = hs.length by omega]]
  exact ⟨rfl, rfl, rfl, rfl⟩
noncomputable def CCmp : List (Nat × Con) := (15, pureC [.v (.cons (.sl (.int .i64)) (.cons (.int .i64) (.cons (.int .i64) (.cons (.int .i64) (.cons (.int .i64) (.cons (.int .i64) .nil)))))), .v (.cons (.int .i64) (.cons .str (.cons (.sl (.sl .str)) (.cons (.sl (.sl (.sl .str))) .nil))))] sCmp) :: CClS
theorem kCmp : Known Tryd.prog (En CCmp tys G6 QOth) := Known.frz0 <| (kClS.frz [1000002, 8000046, 8000047]).add Tryd.func15 Tryd.call15 [.o (.cons (.int .i64) (.cons (.int .i64) (.cons (.int .i64) (.cons (.int .i64) (.cons (.sl .str) .nil)))))] fun ds p v bs h hp => by
 unfold sCmp at h
 split at h <;> simp only [Option.some.injEq, Prod.mk.injEq, reduceCtorEq] at h
 obtain ⟨rfl, rfl, rfl⟩ := h
 exact bCmp _ _ _ _ _ _ _ _ _ _ hp.1 hp.2.1 hp.2.2
end Go.Proofs.YtpfehhcljeagoaaDoor.S28c

namespace Go.Proofs.YtpfehhcljeagoaaDoor.S28c
open Go Go.Proofs.YtpfehhcljeagoaaDoor.Vc Go.Proofs
set_option maxRecDepth 100000
set_option linter.unusedVariables false
open Go.Proofs.YtpfehhcljeagoaaDoor.S28
noncomputable def sPst : List V → Option (Prop × V × List Blk)
 | [.agg [.sl false (.int .i64) hs, .int .i64 nd, .int .i64 wr, .int .i64 sz, .int .i64 st, .int .i64 ph], .agg [.int .i64 me, .str sh, .sl false (.sl .str) rows, .sl false (.sl (.sl .str)) vals]] => some (hs.length ≤ 1000 ∧ rows.length = hs.length ∧ vals.length = hs.length ∧ (∀ x ∈ vals, x.length = hs.length) ∧ (∀ x ∈ rows, x.length ≤ 1048576) ∧ (∀ x ∈ hs, 0 ≤ x ∧ x < 12) ∧ 0 ≤ me ∧ me < 12, .agg [.int .i64 (me), .sl true (.int .i64) (pstL hs me rows vals)], [])
 | _ => none
set_option maxHeartbeats 2000000 in
theorem bPst (hs : List Int) (nd : Int) (wr : Int) (sz : Int) (st : Int) (ph : Int) (me : Int) (sh : List UInt8) (rows : List (List (List UInt8))) (vals : List (List (List (List UInt8)))) (hp0 : hs.length ≤ 1000) (hp1 : rows.length = hs.length) (hp2 : vals.length = hs.length) (hp3 : (∀ x ∈ vals, x.length = hs.length)) (hp4 : (∀ x ∈ rows, x.length ≤ 1048576)) (hp5 : (∀ x ∈ hs, 0 ≤ x ∧ x < 12)) (hp6 : 0 ≤ me) (hp7 : me < 12) : bodyP (En CCmp tys G6 QOth) Tryd.f14 [.k, .d (.int .i64)] [.agg [.sl false (.int .i64) hs, .int .i64 nd, .int .i64 wr, .int .i64 sz, .int .i64 st, .int .i64 ph], .agg [.int .i64 me, .str sh, .sl false (.sl .str) rows, .sl false (.sl (.sl .str)) vals]] (.agg [.int .i64 (me), .sl true (.int .i64) (pstL hs me rows vals)]) [] := by
 obtain ⟨pm0, pm1⟩ := pw12 hp6 hp7
 refine ⟨by kernel_rfl, ⟨rfl, by show (0 : Int) ≤ (hs.length : Int); omega, by show (hs.length : Int) ≤ (1000000000 : Int); omega⟩, ⟨rfl, rfl, rfl, Nat.le_of_ble_eq_true rfl⟩, 5, [(2, .k), (3, .k), (4, .k), (5, .k), (21, .k), (22, .k)], fun nM vs H => ∃ (k : Nat), k ≤ hs.length ∧ nM = hs.length - k ∧ vs = [.ptr 0 1 0 0, .ptr 1 1 0 0, .ptr 2 1 0 0, .ptr 3 1 0 0, .int .i64 (hs.length : Int), .int .i64 (k : Int)] ∧ H = [.cells [.sl false (.int .i64) hs, .int .i64 nd, .int .i64 wr, .int .i64 sz, .int .i64 st, .int .i64 ph], .cells [.int .i64 me, .str sh, .sl false (.sl .str) rows, .sl false (.sl (.sl .str)) vals], .cells [.int .i64 0, .nils], .cells [.int .i64 me, .own (.int .i64) 4], .row true (.int .i64) (fil 0 (pst1 hs me rows vals) hs.length k)], ⟨rfl, hs.length, 0, by omega, by omega, rfl, by rw [fil_zero]; rfl⟩, ?_⟩
 rintro nM vs H ⟨k, hc1_0, rfl, rfl, rfl⟩
 refine ⟨fun h0 => ?_, fun h0 => ?_⟩
 ·replace h0 : (k : Int) < (hs.length : Int) := h0
  have hkl : k < hs.length := by omega
  have hkm := hp4 _ (gmem [] rows k (by omega))
  have hkv := hp3 _ (gmem [] vals k (by omega))
  have hfl := fil_len 0 (pst1 hs me rows vals) hs.length k
  refine ⟨⟨rfl, rfl, rfl⟩, (i0 (k : Int) (rows.length : Int)), fun h1 => ?_, fun h1 => ?_⟩
  ·replace h1 : (((rows.getD k []).length : Nat) : Int) = 0 := h1
   have hst : fil 0 (pst1 hs me rows vals) hs.length (k + 1) = fil 0 (pst1 hs me rows vals) hs.length k := fil_same (by unfold pst1; rw [if_pos (by omega)])
   refine ⟨(r64 ((k : Int) + 1)), ?_⟩
   exact ⟨rfl, hs.length - (k + 1), by omega, k + 1, by omega, rfl, rfl, by rw [hst]; rfl⟩
  ·replace h1 : ¬ ((((rows.getD k []).length : Nat) : Int) = 0) := h1
   have hst : fil 0 (pst1 hs me rows vals) hs.length (k + 1) = (fil 0 (pst1 hs me rows vals) hs.length k).set k (agB (vals.getD k []) (rows.getD k []) ((oth me 0 hs).take (oth me 0 hs).length) (1 * 2 ^ me.toNat)) := by rw [← fil_set hkl, pst1, if_neg (by omega), List.take_length]
   refine ⟨by kernel_rfl, ⟨by show (0 : Int) ≤ me; omega, by show me ≤ (64 : Int); omega⟩, (r64 ((1 : Int) * 2 ^ me.toNat)), (i0 (k : Int) ((fil 0 (pst1 hs me rows vals) hs.length k).length : Int)), rfl, ⟨rfl, rfl⟩, rfl, rfl, rfl, rfl, rfl, rfl, trivial, rfl, rfl, rfl, rfl, rfl, rfl, rfl, ⟨by show hs.length ≤ 2000000; first | omega | assumption, fun _ _ => rfl⟩, 6, [(2, .k), (3, .k), (4, .k), (5, .k), (6, .k), (21, .k), (22, .k)], fun n vs H => n ≤ (oth me 0 hs).length ∧ vs = [.ptr 0 1 0 0, .ptr 1 1 0 0, .ptr 2 1 0 0, .ptr 3 1 0 0, .ptr 5 1 0 0, .int .i64 (hs.length : Int), .int .i64 (k : Int)] ∧ H = [.cells [.sl false (.int .i64) hs, .int .i64 nd, .int .i64 wr, .int .i64 sz, .int .i64 st, .int .i64 ph], .cells [.int .i64 me, .str sh, .sl false (.sl .str) rows, .sl false (.sl (.sl .str)) vals], .cells [.int .i64 0, .nils], .cells [.int .i64 me, .own (.int .i64) 4], .row true (.int .i64) ((fil 0 (pst1 hs me rows vals) hs.length k).set k (agB (vals.getD k []) (rows.getD k []) ((oth me 0 hs).take n) (1 * 2 ^ me.toNat))), .cells [.int .i64 (k : Int)]], ⟨rfl, by omega, rfl, rfl⟩, ?_, ?_⟩
   ·rintro n vs H ⟨hc2_0, rfl, rfl⟩ hn2
    replace hn2 : n < (oth me 0 hs).length := hn2
    obtain ⟨i, hi, e1, e2, e3⟩ := oth_mem hs 0 (gmem (0, 0) (oth me 0 hs) n hn2)
    obtain ⟨g0, g1⟩ := hp5 _ (gmem 0 hs i hi)
    rw [← e2] at g0 g1
    obtain ⟨q0, q1⟩ := pw12 g0 g1
    obtain ⟨a0, a1⟩ := agB_bd (vals.getD k []) (rows.getD k []) ((oth me 0 hs).take n) (1 * 2 ^ me.toNat) (by omega) (by omega) (fun p hp => by obtain ⟨i, hi, _, e2, _⟩ := oth_mem hs 0 (List.mem_of_mem_take hp); rw [e2]; exact hp5 _ (gmem 0 hs i hi))
    have hgs : ((fil 0 (pst1 hs me rows vals) hs.length k).set k (agB (vals.getD k []) (rows.getD k []) ((oth me 0 hs).take n) (1 * 2 ^ me.toNat))).getD k 0 = agB (vals.getD k []) (rows.getD k []) ((oth me 0 hs).take n) (1 * 2 ^ me.toNat) := by rw [gD (by rw [List.length_set]; omega)]; exact List.getElem_set_self ..
    have hsl : ((fil 0 (pst1 hs me rows vals) hs.length k).set k (agB (vals.getD k []) (rows.getD k []) ((oth me 0 hs).take n) (1 * 2 ^ me.toNat))).length = hs.length := by rw [List.length_set]; exact hfl
    have hsn := agB_snoc (vals.getD k []) (rows.getD k []) (1 * 2 ^ me.toNat) hn2
    refine ⟨(i0 (k : Int) (rows.length : Int)), rfl, by show (rows.getD k []).length ≤ 1048576; first | omega | assumption | (simp only [List.length_cons, List.length_nil, List.length_append, List.length_take, List.length_drop, List.length_set, List.length_replicate]; omega), (i0 (k : Int) (vals.length : Int)), (i0 (((oth me 0 hs).getD n (0, 0)).1) ((vals.getD k []).length : Int)), fun h2 => ?_, fun h2 => ?_⟩
    ·replace h2 : 0 < ((((vals.getD k []).getD ((((oth me 0 hs).getD n (0, 0)).1).toNat) []).length : Nat) : Int) := h2
     refine ⟨(i0 0 (((vals.getD k []).getD ((((oth me 0 hs).getD n (0, 0)).1).toNat) []).length : Int)), fun h3 => ?_, fun h3 => ?_⟩
     ·replace h3 : (((vals.getD k []).getD ((((oth me 0 hs).getD n (0, 0)).1).toNat) []).getD 0 []) = (valS (rows.getD k []) (((oth me 0 hs).getD n (0, 0)).2)) := h3
      have hnx : (fil 0 (pst1 hs me rows vals) hs.length k).set k (agB (vals.getD k []) (rows.getD k []) ((oth me 0 hs).take (n + 1)) (1 * 2 ^ me.toNat)) = ((fil 0 (pst1 hs me rows vals) hs.length k).set k (agB (vals.getD k []) (rows.getD k []) ((oth me 0 hs).take n) (1 * 2 ^ me.toNat))).set k (nxt (((fil 0 (pst1 hs me rows vals) hs.length k).set k (agB (vals.getD k []) (rows.getD k []) ((oth me 0 hs).take n) (1 * 2 ^ me.toNat))).getD k 0) ((oth me 0 hs).getD n (0, 0)).2) := by rw [hgs, List.set_set, hsn, if_pos ⟨by omega, h3⟩]
      refine ⟨by kernel_rfl, (i0 (k : Int) (((fil 0 (pst1 hs me rows vals) hs.length k).set k (agB (vals.getD k []) (rows.getD k []) ((oth me 0 hs).take n) (1 * 2 ^ me.toNat))).length : Int)), ⟨by show (0 : Int) ≤ ((oth me 0 hs).getD n (0, 0)).2; omega, by show ((oth me 0 hs).getD n (0, 0)).2 ≤ (64 : Int); omega⟩, (r64 ((1 : Int) * 2 ^ ((((oth me 0 hs).getD n (0, 0)).2).toNat))), .inl ⟨⟨by show (0 : Int) ≤ (((fil 0 (pst1 hs me rows vals) hs.length k).set k (agB (vals.getD k []) (rows.getD k []) ((oth me 0 hs).take n) (1 * 2 ^ me.toNat))).getD k 0); omega, by show (0 : Int) ≤ ((1 : Int) * 2 ^ ((((oth me 0 hs).getD n (0, 0)).2).toNat)); omega⟩, ?_⟩⟩
      refine ⟨(i0 (k : Int) (((fil 0 (pst1 hs me rows vals) hs.length k).set k (agB (vals.getD k []) (rows.getD k []) ((oth me 0 hs).take n) (1 * 2 ^ me.toNat))).length : Int)), rfl, ⟨rfl, rfl⟩, ?_⟩
      exact ⟨rfl, rfl, by omega, rfl, by rw [hnx]; rfl⟩
     ·replace h3 : ¬ ((((vals.getD k []).getD ((((oth me 0 hs).getD n (0, 0)).1).toNat) []).getD 0 []) = (valS (rows.getD k []) (((oth me 0 hs).getD n (0, 0)).2))) := h3
      have hnx : (fil 0 (pst1 hs me rows vals) hs.length k).set k (agB (vals.getD k []) (rows.getD k []) ((oth me 0 hs).take (n + 1)) (1 * 2 ^ me.toNat)) = (fil 0 (pst1 hs me rows vals) hs.length k).set k (agB (vals.getD k []) (rows.getD k []) ((oth me 0 hs).take n) (1 * 2 ^ me.toNat)) := by rw [hsn, if_neg (fun g => h3 g.2)]
      exact ⟨rfl, rfl, by omega, rfl, by rw [hnx]; rfl⟩
    ·replace h2 : ¬ (0 < ((((vals.getD k []).getD ((((oth me 0 hs).getD n (0, 0)).1).toNat) []).length : Nat) : Int)) := h2
     have hnx : (fil 0 (pst1 hs me rows vals) hs.length k).set k (agB (vals.getD k []) (rows.getD k []) ((oth me 0 hs).take (n + 1)) (1 * 2 ^ me.toNat)) = (fil 0 (pst1 hs me rows vals) hs.length k).set k (agB (vals.getD k []) (rows.getD k []) ((oth me 0 hs).take n) (1 * 2 ^ me.toNat)) := by rw [hsn, if_neg (fun g => h2 (by omega))]
     exact ⟨rfl, rfl, by omega, rfl, by rw [hnx]; rfl⟩
   ·rintro vs H ⟨hc2_0, rfl, rfl⟩
    refine ⟨(r64 ((k : Int) + 1)), ?_⟩
    exact ⟨rfl, hs.length - (k + 1), by omega, k + 1, by omega, rfl, rfl, by rw [hst]; rfl⟩
 ·replace h0 : ¬ ((k : Int) < (hs.length : Int)) := h0
  refine ⟨⟨rfl, rfl, rfl, Nat.le_of_ble_eq_true rfl⟩, ?_⟩
  rw [show pstL hs me rows vals = fil 0 (pst1 hs me rows vals) hs.length k by rw [pstL, show k = hs.length by omega, fil_all]]
  exact ⟨rfl, rfl, rfl, rfl⟩
noncomputable def CPst : List (Nat × Con) := (14, pureC [.v (.cons (.sl (.int .i64)) (.cons (.int .i64) (.cons (.int .i64) (.cons (.int .i64) (.cons (.int .i64) (.cons (.int .i64) .nil)))))), .v (.cons (.int .i64) (.cons .str (.cons (.sl (.sl .str)) (.cons (.sl (.sl (.sl .str))) .nil))))] sPst) :: CCmp
theorem kPst : Known Tryd.prog (En CPst tys G6 QOth) := kCmp.add Tryd.func14 Tryd.call14 [.k, .d (.int .i64)] fun ds p v bs h hp => by
 unfold sPst at h
 split at h <;> simp only [Option.some.injEq, Prod.mk.injEq, reduceCtorEq] at h
 obtain ⟨rfl, rfl, rfl⟩ := h
 exact bPst _ _ _ _ _ _ _ _ _ _ hp.1 hp.2.1 hp.2.2.1 hp.2.2.2.1 hp.2.2.2.2.1 hp.2.2.2.2.2.1 hp.2.2.2.2.2.2.1 hp.2.2.2.2.2.2.2
end Go.Proofs.YtpfehhcljeagoaaDoor.S28c

namespace Go.Proofs.YtpfehhcljeagoaaDoor.S28c
open Go Go.Proofs.YtpfehhcljeagoaaDoor.Vc Go.Proofs
set_option maxRecDepth 100000
set_option linter.unusedVariables false
open Go.Proofs.YtpfehhcljeagoaaDoor.S28
noncomputable def sRcv : List V → Option (Prop × V × List Blk)
 | [.agg [.sl false (.int .i64) hs, .int .i64 nd, .int .i64 wr, .int .i64 sz, .int .i64 st, .int .i64 ph], .agg [.int .i64 me, .str sh, .sl false (.sl .str) rows, .sl false (.sl (.sl .str)) vals], .agg [.int .i64 mk, .int .i64 mf, .int .i64 mt, .int .i64 md, .sl false .str ss], .int .i64 tick] => some (tkE hs nd wr sz st ph = 0 ∧ rows.length = hs.length ∧ vals.length = hs.length ∧ (∀ x ∈ vals, x.length = hs.length) ∧ (∀ x ∈ rows, x.length ≤ 1048576) ∧ ss.length ≤ 1048576, .agg [.int .i64 (me), .str (sh), .sl false (.sl .str) (rcvR hs nd sz st ph me rows mk mf mt md ss tick), .sl false (.sl (.sl .str)) (rcvV hs sz st ph me vals mk mf mt md ss tick)], [])
 | _ => none
set_option maxHeartbeats 4000000 in
theorem bRcv (hs : List Int) (nd : Int) (wr : Int) (sz : Int) (st : Int) (ph : Int) (me : Int) (sh : List UInt8) (rows : List (List (List UInt8))) (vals : List (List (List (List UInt8)))) (mk : Int) (mf : Int) (mt : Int) (md : Int) (ss : List (List UInt8)) (tick : Int) (hp0 : tkE hs nd wr sz st ph = 0) (hp1 : rows.length = hs.length) (hp2 : vals.length = hs.length) (hp3 : (∀ x ∈ vals, x.length = hs.length)) (hp4 : (∀ x ∈ rows, x.length ≤ 1048576)) (hp5 : ss.length ≤ 1048576) : bodyI (En CPst tys G6 QOth [1000002, 10000139]) Tryd.f11 [.k, .k, .d (.sl .str), .d (.sl (.sl .str))] [.agg [.sl false (.int .i64) hs, .int .i64 nd, .int .i64 wr, .int .i64 sz, .int .i64 st, .int .i64 ph], .agg [.int .i64 me, .str sh, .sl false (.sl .str) rows, .sl false (.sl (.sl .str)) vals], .agg [.int .i64 mk, .int .i64 mf, .int .i64 mt, .int .i64 md, .sl false .str ss], .int .i64 tick] (.agg [.int .i64 (me), .str (sh), .sl false (.sl .str) (rcvR hs nd sz st ph me rows mk mf mt md ss tick), .sl false (.sl (.sl .str)) (rcvV hs sz st ph me vals mk mf mt md ss tick)]) [] := by
 have hT := tk0 hp0
 have hl12 := hT.l12
 obtain ⟨r1, r2, r3, ⟨r4, r5⟩, ⟨r6, r7⟩⟩ := hT.rg.1
 refine ⟨by kernel_rfl, rfl, by show hs.length ≤ 2000000; first | omega | assumption, rfl, by show hs.length ≤ 2000000; first | omega | assumption, fun h0 => ?_, fun h0 => ?_⟩
 ·replace h0 : ¬ (mt ≠ me) := h0
  refine ⟨fun h1 => ?_, fun h1 => ?_⟩
  ·replace h1 : ¬ (mf = me) := h1
   refine ⟨fun h2 => ?_, fun h2 => ?_⟩
   ·replace h2 : ¬ ((idxF mf hs 0) < 0) := h2
    have if_ := idx_lt h2
    refine ⟨fun h3 => ?_, fun h3 => ?_⟩
    ·replace h3 : ¬ ((idxF md hs 0) < 0) := h3
     have id_ := idx_lt h3
     have hkm := hp4 _ (gmem [] rows _ (show (idxF md hs 0).toNat < rows.length by omega))
     have hkv := hp3 _ (gmem [] vals _ (show (idxF md hs 0).toNat < vals.length by omega))
     refine ⟨fun h4 => ?_, fun h4 => ?_⟩
     ·replace h4 : tick < st := h4
      refine ⟨⟨rfl, rfl, rfl, Nat.le_of_ble_eq_true rfl⟩, ?_⟩
      have e1 : rcvR hs nd sz st ph me rows mk mf mt md ss tick = rows := if_neg (fun g => by obtain ⟨g1, g2, g3, g4, g5, g6⟩ := g; unfold rcvN at g1; first | omega | exact h8 g5)
      have e2 : rcvV hs sz st ph me vals mk mf mt md ss tick = vals := if_neg (fun g => by obtain ⟨g1, g2, g3, g4, g5⟩ := g; unfold rcvN at g1; first | omega | exact h12 g4)
      rw [e1, e2]
      exact ⟨rfl, rfl, rfl, rfl⟩
     ·replace h4 : ¬ (tick < st) := h4
      refine ⟨fun h5 => ?_, fun h5 => ?_⟩
      ·replace h5 : mk = 1 := h5
       refine ⟨fun h6 => ?_, fun h6 => ?_⟩
       ·replace h6 : mf = md := h6
        refine ⟨(i0 (idxF md hs 0) (rows.length : Int)), fun h7 => ?_, fun h7 => ?_⟩
        ·replace h7 : (((rows.getD ((idxF md hs 0).toNat) []).length : Nat) : Int) = 0 := h7
         refine ⟨(r64 (nd - 1)), rfl, rfl, by show ss.length ≤ 1048576; first | omega | assumption, fun h8 => ?_, fun h8 => ?_⟩
         ·replace h8 : ((ss.length : Int) = (nd - 1) ∧ ¬ ∃ x ∈ ss, (x.length : Int) ≠ sz) := h8
          refine ⟨(r64 (st + ph)), fun h9 => ?_, fun h9 => ?_⟩
          ·replace h9 : tick < (st + ph) := h9
           refine ⟨⟨rfl, by show (0 : Int) ≤ (rows.length : Int); omega, by show (rows.length : Int) ≤ (1000000000 : Int); omega⟩, ⟨rfl, rfl⟩, ⟨by show rows.length = (List.replicate rows.length []).length; first | omega | (simp only [List.length_replicate, Int.toNat_natCast]; omega) | (simp only [List.length_replicate, Int.toNat_natCast]; done), by show 0 < rows.length; omega⟩, by show ss.length ≤ 1048576; first | omega | assumption, (i0 (idxF md hs 0) (rows.length : Int)), ⟨fun h => (by first | rfl | cases h), rfl, rfl⟩, ⟨rfl, rfl, rfl⟩, ⟨rfl, rfl, rfl, Nat.le_of_ble_eq_true rfl⟩, ?_⟩
           have e1 : rcvR hs nd sz st ph me rows mk mf mt md ss tick = rows.set (idxF md hs 0).toNat ss := if_pos ⟨by unfold rcvN; omega, h5, h6, by omega, h8, h9⟩
           have e2 : rcvV hs sz st ph me vals mk mf mt md ss tick = vals := if_neg (fun g => by obtain ⟨g1, g2, g3, g4, g5⟩ := g; omega)
           rw [e1, e2]
           exact ⟨rfl, rfl, rfl, rfl⟩
          ·replace h9 : ¬ (tick < (st + ph)) := h9
           refine ⟨⟨rfl, rfl, rfl, Nat.le_of_ble_eq_true rfl⟩, ?_⟩
           have e1 : rcvR hs nd sz st ph me rows mk mf mt md ss tick = rows := if_neg (fun g => by obtain ⟨g1, g2, g3, g4, g5, g6⟩ := g; unfold rcvN at g1; first | omega | exact h8 g5)
           have e2 : rcvV hs sz st ph me vals mk mf mt md ss tick = vals := if_neg (fun g => by obtain ⟨g1, g2, g3, g4, g5⟩ := g; unfold rcvN at g1; first | omega | exact h12 g4)
           rw [e1, e2]
           exact ⟨rfl, rfl, rfl, rfl⟩
         ·replace h8 : ¬ ((ss.length : Int) = (nd - 1) ∧ ¬ ∃ x ∈ ss, (x.length : Int) ≠ sz) := h8
          refine ⟨⟨rfl, rfl, rfl, Nat.le_of_ble_eq_true rfl⟩, ?_⟩
          have e1 : rcvR hs nd sz st ph me rows mk mf mt md ss tick = rows := if_neg (fun g => by obtain ⟨g1, g2, g3, g4, g5, g6⟩ := g; unfold rcvN at g1; first | omega | exact h8 g5)
          have e2 : rcvV hs sz st ph me vals mk mf mt md ss tick = vals := if_neg (fun g => by obtain ⟨g1, g2, g3, g4, g5⟩ := g; unfold rcvN at g1; first | omega | exact h12 g4)
          rw [e1, e2]
          exact ⟨rfl, rfl, rfl, rfl⟩
        ·replace h7 : ¬ ((((rows.getD ((idxF md hs 0).toNat) []).length : Nat) : Int) = 0) := h7
         refine ⟨⟨rfl, rfl, rfl, Nat.le_of_ble_eq_true rfl⟩, ?_⟩
         have e1 : rcvR hs nd sz st ph me rows mk mf mt md ss tick = rows := if_neg (fun g => by obtain ⟨g1, g2, g3, g4, g5, g6⟩ := g; unfold rcvN at g1; first | omega | exact h8 g5)
         have e2 : rcvV hs sz st ph me vals mk mf mt md ss tick = vals := if_neg (fun g => by obtain ⟨g1, g2, g3, g4, g5⟩ := g; unfold rcvN at g1; first | omega | exact h12 g4)
         rw [e1, e2]
         exact ⟨rfl, rfl, rfl, rfl⟩
       ·replace h6 : ¬ (mf = md) := h6
        refine ⟨⟨rfl, rfl, rfl, Nat.le_of_ble_eq_true rfl⟩, ?_⟩
        have e1 : rcvR hs nd sz st ph me rows mk mf mt md ss tick = rows := if_neg (fun g => by obtain ⟨g1, g2, g3, g4, g5, g6⟩ := g; unfold rcvN at g1; first | omega | exact h8 g5)
        have e2 : rcvV hs sz st ph me vals mk mf mt md ss tick = vals := if_neg (fun g => by obtain ⟨g1, g2, g3, g4, g5⟩ := g; unfold rcvN at g1; first | omega | exact h12 g4)
        rw [e1, e2]
        exact ⟨rfl, rfl, rfl, rfl⟩
      ·replace h5 : ¬ (mk = 1) := h5
       refine ⟨fun h10 => ?_, fun h10 => ?_⟩
       ·replace h10 : mk = 2 := h10
        refine ⟨(i0 (idxF md hs 0) (vals.length : Int)), (i0 (idxF mf hs 0) ((vals.getD ((idxF md hs 0).toNat) []).length : Int)), fun h11 => ?_, fun h11 => ?_⟩
        ·replace h11 : ((((vals.getD ((idxF md hs 0).toNat) []).getD ((idxF mf hs 0).toNat) []).length : Nat) : Int) = 0 := h11
         refine ⟨rfl, rfl, by show ss.length ≤ 1048576; first | omega | assumption, fun h12 => ?_, fun h12 => ?_⟩
         ·replace h12 : ((ss.length : Int) = 1 ∧ ¬ ∃ x ∈ ss, (x.length : Int) ≠ sz) := h12
          refine ⟨(r64 (2 * ph)), (r64 (st + (2 * ph))), fun h13 => ?_, fun h13 => ?_⟩
          ·replace h13 : tick < (st + (2 * ph)) := h13
           refine ⟨by kernel_rfl, ⟨rfl, by show (0 : Int) ≤ (vals.length : Int); omega, by show (vals.length : Int) ≤ (1000000000 : Int); omega⟩, ⟨rfl, by show (0 : Int) ≤ (vals.length : Int); omega, by show (vals.length : Int) ≤ (1000000000 : Int); omega⟩, ⟨rfl, rfl⟩, ⟨by show vals.length = (List.replicate vals.length []).length; first | omega | (simp only [List.length_replicate, Int.toNat_natCast]; omega) | (simp only [List.length_replicate, Int.toNat_natCast]; done), by show 0 < vals.length; omega⟩, (i0 (idxF md hs 0) (vals.length : Int)), ⟨rfl, rfl⟩, ⟨by show (vals.getD ((idxF md hs 0).toNat) []).length = (List.replicate vals.length []).length; first | omega | (simp only [List.length_replicate, Int.toNat_natCast]; omega) | (simp only [List.length_replicate, Int.toNat_natCast]; done), by show 0 < (vals.getD ((idxF md hs 0).toNat) []).length; omega⟩, by show ss.length ≤ 1048576; first | omega | assumption, (i0 (idxF mf hs 0) ((vals.getD ((idxF md hs 0).toNat) []).length : Int)), ⟨fun h => (by first | rfl | cases h), rfl, rfl⟩, (i0 (idxF md hs 0) (vals.length : Int)), ⟨fun h => (by first | rfl | cases h), rfl, rfl⟩, ⟨rfl, rfl, rfl⟩, ⟨rfl, rfl, rfl, Nat.le_of_ble_eq_true rfl⟩, ?_⟩
           have e1 : rcvR hs nd sz st ph me rows mk mf mt md ss tick = rows := if_neg (fun g => by obtain ⟨g1, g2, g3, g4, g5, g6⟩ := g; omega)
           have e2 : rcvV hs sz st ph me vals mk mf mt md ss tick = vals.set (idxF md hs 0).toNat ((vals.getD (idxF md hs 0).toNat []).set (idxF mf hs 0).toNat ss) := if_pos ⟨by unfold rcvN; omega, h10, by omega, h12, h13⟩
           rw [e1, e2]
           exact ⟨rfl, rfl, rfl, rfl⟩
          ·replace h13 : ¬ (tick < (st + (2 * ph))) := h13
           refine ⟨⟨rfl, rfl, rfl, Nat.le_of_ble_eq_true rfl⟩, ?_⟩
           have e1 : rcvR hs nd sz st ph me rows mk mf mt md ss tick = rows := if_neg (fun g => by obtain ⟨g1, g2, g3, g4, g5, g6⟩ := g; unfold rcvN at g1; first | omega | exact h8 g5)
           have e2 : rcvV hs sz st ph me vals mk mf mt md ss tick = vals := if_neg (fun g => by obtain ⟨g1, g2, g3, g4, g5⟩ := g; unfold rcvN at g1; first | omega | exact h12 g4)
           rw [e1, e2]
           exact ⟨rfl, rfl, rfl, rfl⟩
         ·replace h12 : ¬ ((ss.length : Int) = 1 ∧ ¬ ∃ x ∈ ss, (x.length : Int) ≠ sz) := h12
          refine ⟨⟨rfl, rfl, rfl, Nat.le_of_ble_eq_true rfl⟩, ?_⟩
          have e1 : rcvR hs nd sz st ph me rows mk mf mt md ss tick = rows := if_neg (fun g => by obtain ⟨g1, g2, g3, g4, g5, g6⟩ := g; unfold rcvN at g1; first | omega | exact h8 g5)
          have e2 : rcvV hs sz st ph me vals mk mf mt md ss tick = vals := if_neg (fun g => by obtain ⟨g1, g2, g3, g4, g5⟩ := g; unfold rcvN at g1; first | omega | exact h12 g4)
          rw [e1, e2]
          exact ⟨rfl, rfl, rfl, rfl⟩
        ·replace h11 : ¬ (((((vals.getD ((idxF md hs 0).toNat) []).getD ((idxF mf hs 0).toNat) []).length : Nat) : Int) = 0) := h11
         refine ⟨⟨rfl, rfl, rfl, Nat.le_of_ble_eq_true rfl⟩, ?_⟩
         have e1 : rcvR hs nd sz st ph me rows mk mf mt md ss tick = rows := if_neg (fun g => by obtain ⟨g1, g2, g3, g4, g5, g6⟩ := g; unfold rcvN at g1; first | omega | exact h8 g5)
         have e2 : rcvV hs sz st ph me vals mk mf mt md ss tick = vals := if_neg (fun g => by obtain ⟨g1, g2, g3, g4, g5⟩ := g; unfold rcvN at g1; first | omega | exact h12 g4)
         rw [e1, e2]
         exact ⟨rfl, rfl, rfl, rfl⟩
       ·replace h10 : ¬ (mk = 2) := h10
        refine ⟨⟨rfl, rfl, rfl, Nat.le_of_ble_eq_true rfl⟩, ?_⟩
        have e1 : rcvR hs nd sz st ph me rows mk mf mt md ss tick = rows := if_neg (fun g => by obtain ⟨g1, g2, g3, g4, g5, g6⟩ := g; unfold rcvN at g1; first | omega | exact h8 g5)
        have e2 : rcvV hs sz st ph me vals mk mf mt md ss tick = vals := if_neg (fun g => by obtain ⟨g1, g2, g3, g4, g5⟩ := g; unfold rcvN at g1; first | omega | exact h12 g4)
        rw [e1, e2]
        exact ⟨rfl, rfl, rfl, rfl⟩
    ·replace h3 : (idxF md hs 0) < 0 := h3
     refine ⟨⟨rfl, rfl, rfl, Nat.le_of_ble_eq_true rfl⟩, ?_⟩
     have e1 : rcvR hs nd sz st ph me rows mk mf mt md ss tick = rows := if_neg (fun g => by obtain ⟨g1, g2, g3, g4, g5, g6⟩ := g; unfold rcvN at g1; first | omega | exact h8 g5)
     have e2 : rcvV hs sz st ph me vals mk mf mt md ss tick = vals := if_neg (fun g => by obtain ⟨g1, g2, g3, g4, g5⟩ := g; unfold rcvN at g1; first | omega | exact h12 g4)
     rw [e1, e2]
     exact ⟨rfl, rfl, rfl, rfl⟩
   ·replace h2 : (idxF mf hs 0) < 0 := h2
    refine ⟨⟨rfl, rfl, rfl, Nat.le_of_ble_eq_true rfl⟩, ?_⟩
    have e1 : rcvR hs nd sz st ph me rows mk mf mt md ss tick = rows := if_neg (fun g => by obtain ⟨g1, g2, g3, g4, g5, g6⟩ := g; unfold rcvN at g1; first | omega | exact h8 g5)
    have e2 : rcvV hs sz st ph me vals mk mf mt md ss tick = vals := if_neg (fun g => by obtain ⟨g1, g2, g3, g4, g5⟩ := g; unfold rcvN at g1; first | omega | exact h12 g4)
    rw [e1, e2]
    exact ⟨rfl, rfl, rfl, rfl⟩
  ·replace h1 : mf = me := h1
   refine ⟨⟨rfl, rfl, rfl, Nat.le_of_ble_eq_true rfl⟩, ?_⟩
   have e1 : rcvR hs nd sz st ph me rows mk mf mt md ss tick = rows := if_neg (fun g => by obtain ⟨g1, g2, g3, g4, g5, g6⟩ := g; unfold rcvN at g1; first | omega | exact h8 g5)
   have e2 : rcvV hs sz st ph me vals mk mf mt md ss tick = vals := if_neg (fun g => by obtain ⟨g1, g2, g3, g4, g5⟩ := g; unfold rcvN at g1; first | omega | exact h12 g4)
   rw [e1, e2]
   exact ⟨rfl, rfl, rfl, rfl⟩
 ·replace h0 : mt ≠ me := h0
  refine ⟨⟨rfl, rfl, rfl, Nat.le_of_ble_eq_true rfl⟩, ?_⟩
  have e1 : rcvR hs nd sz st ph me rows mk mf mt md ss tick = rows := if_neg (fun g => by obtain ⟨g1, g2, g3, g4, g5, g6⟩ := g; unfold rcvN at g1; first | omega | exact h8 g5)
  have e2 : rcvV hs sz st ph me vals mk mf mt md ss tick = vals := if_neg (fun g => by obtain ⟨g1, g2, g3, g4, g5⟩ := g; unfold rcvN at g1; first | omega | exact h12 g4)
  rw [e1, e2]
  exact ⟨rfl, rfl, rfl, rfl⟩
noncomputable def CRcv : List (Nat × Con) := (11, immC [.v (.cons (.sl (.int .i64)) (.cons (.int .i64) (.cons (.int .i64) (.cons (.int .i64) (.cons (.int .i64) (.cons (.int .i64) .nil)))))), .v (.cons (.int .i64) (.cons .str (.cons (.sl (.sl .str)) (.cons (.sl (.sl (.sl .str))) .nil)))), .v (.cons (.int .i64) (.cons (.int .i64) (.cons (.int .i64) (.cons (.int .i64) (.cons (.sl .str) .nil))))), .v (.int .i64)] sRcv) :: CPst
theorem kRcv : Known Tryd.prog (En CRcv tys G6 QOth) := Known.frz0 <| (kPst.frz [1000002, 10000139]).addI Tryd.func11 Tryd.call11 [.k, .k, .d (.sl .str), .d (.sl (.sl .str))] fun ds p v bs h hp => by
 unfold sRcv at h
 split at h <;> simp only [Option.some.injEq, Prod.mk.injEq, reduceCtorEq] at h
 obtain ⟨rfl, rfl, rfl⟩ := h
 exact bRcv _ _ _ _ _ _ _ _ _ _ _ _ _ _ _ _ hp.1 hp.2.1 hp.2.2.1 hp.2.2.2.1 hp.2.2.2.2.1 hp.2.2.2.2.2
end Go.Proofs.YtpfehhcljeagoaaDoor.S28c

namespace Go.Proofs.YtpfehhcljeagoaaDoor.S28c
open Go Go.Proofs.YtpfehhcljeagoaaDoor.Vc Go.Proofs
set_option maxRecDepth 100000
set_option linter.unusedVariables false
open Go.Proofs.YtpfehhcljeagoaaDoor.S28
noncomputable def sBg1 : List V → Option (Prop × V × List Blk)
 | [.int .i64 e] => some (True, .tup [.agg [.int .i64 0, .str ([]), .sl true (.sl .str) ([]), .sl true (.sl (.sl .str)) ([])], .sl true (.cons (.int .i64) (.cons (.int .i64) (.cons (.int .i64) (.cons (.int .i64) (.cons (.sl .str) .nil))))) ([]), .int .i64 (e)], [])
 | _ => none
set_option maxHeartbeats 1000000 in
theorem bBg1 (e : Int)  : bodyP (En CRcv tys G6 QOth) Tryd.f24 [.e [(2, (.sl .str)), (3, (.sl (.sl .str)))], .d (.cons (.int .i64) (.cons (.int .i64) (.cons (.int .i64) (.cons (.int .i64) (.cons (.sl .str) .nil))))), .k] [.int .i64 e] (.tup [.agg [.int .i64 0, .str ([]), .sl true (.sl .str) ([]), .sl true (.sl (.sl .str)) ([])], .sl true (.cons (.int .i64) (.cons (.int .i64) (.cons (.int .i64) (.cons (.int .i64) (.cons (.sl .str) .nil))))) ([]), .int .i64 (e)]) [] := by
 refine ⟨⟨rfl, rfl, rfl, Nat.le_of_ble_eq_true rfl⟩, ?_⟩
 exact ⟨rfl, rfl, rfl, rfl⟩
noncomputable def CBg1 : List (Nat × Con) := (24, pureC [.v (.int .i64)] sBg1) :: CRcv
theorem kBg1 : Known Tryd.prog (En CBg1 tys G6 QOth) := kRcv.add Tryd.func24 Tryd.call24 [.e [(2, (.sl .str)), (3, (.sl (.sl .str)))], .d (.cons (.int .i64) (.cons (.int .i64) (.cons (.int .i64) (.cons (.int .i64) (.cons (.sl .str) .nil))))), .k] fun ds p v bs h hp => by
 unfold sBg1 at h
 split at h <;> simp only [Option.some.injEq, Prod.mk.injEq, reduceCtorEq] at h
 obtain ⟨rfl, rfl, rfl⟩ := h
 exact bBg1 _
noncomputable def sBeg : List V → Option (Prop × V × List Blk)
 | [.agg [.sl false (.int .i64) hs, .int .i64 nd, .int .i64 wr, .int .i64 sz, .int .i64 st, .int .i64 ph], .int .i64 me, .str sh, .str nz] => some (hs.length ≤ 1000 ∧ nd ≤ 2 ∧ sh.length ≤ 1048576 ∧ nz.length ≤ 1048576, .tup [.agg [.int .i64 (begH hs nd wr sz st ph me sh nz), .str (begS hs nd wr sz st ph me sh nz), .sl true (.sl .str) (begR hs nd wr sz st ph me sh nz), .sl true (.sl (.sl .str)) (begV hs nd wr sz st ph me sh nz)], .sl true (.cons (.int .i64) (.cons (.int .i64) (.cons (.int .i64) (.cons (.int .i64) (.cons (.sl .str) .nil))))) (begM hs nd wr sz st ph me sh nz), .int .i64 (begE hs nd wr sz st ph me sh nz)], [])
 | _ => none
set_option maxHeartbeats 4000000 in
theorem bBeg (hs : List Int) (nd : Int) (wr : Int) (sz : Int) (st : Int) (ph : Int) (me : Int) (sh : List UInt8) (nz : List UInt8) (hp0 : hs.length ≤ 1000) (hp1 : nd ≤ 2) (hp2 : sh.length ≤ 1048576) (hp3 : nz.length ≤ 1048576) : bodyP (En CBg1 tys G6 QOth [10000075, 9000087, 7100120]) Tryd.f8 [.e [(2, (.sl .str)), (3, (.sl (.sl .str)))], .d (.cons (.int .i64) (.cons (.int .i64) (.cons (.int .i64) (.cons (.int .i64) (.cons (.sl .str) .nil))))), .k] [.agg [.sl false (.int .i64) hs, .int .i64 nd, .int .i64 wr, .int .i64 sz, .int .i64 st, .int .i64 ph], .int .i64 me, .str sh, .str nz] (.tup [.agg [.int .i64 (begH hs nd wr sz st ph me sh nz), .str (begS hs nd wr sz st ph me sh nz), .sl true (.sl .str) (begR hs nd wr sz st ph me sh nz), .sl true (.sl (.sl .str)) (begV hs nd wr sz st ph me sh nz)], .sl true (.cons (.int .i64) (.cons (.int .i64) (.cons (.int .i64) (.cons (.int .i64) (.cons (.sl .str) .nil))))) (begM hs nd wr sz st ph me sh nz), .int .i64 (begE hs nd wr sz st ph me sh nz)]) [] := by
 refine ⟨rfl, rfl, rfl, rfl, rfl, by show hs.length ≤ 2000000; first | omega | assumption, fun h0 => ?_, fun h0 => ?_⟩
 ·replace h0 : (tkE hs nd wr sz st ph) ≠ 0 := h0
  refine ⟨rfl, trivial, ⟨rfl, rfl, rfl, Nat.le_of_ble_eq_true rfl⟩, ?_⟩
  have e : begE hs nd wr sz st ph me sh nz = tkE hs nd wr sz st ph := by unfold begE; rw [if_neg h0]
  obtain ⟨e1, e2, e3, e4, e5⟩ := beg_err (show begE hs nd wr sz st ph me sh nz ≠ 0 by rw [e]; exact h0)
  rw [e1, e2, e3, e4, e5, e]
  exact ⟨rfl, rfl, rfl, rfl⟩
 ·replace h0 : ¬ ((tkE hs nd wr sz st ph) ≠ 0) := h0
  have hT := tk0 (Classical.not_not.1 h0)
  have hl12 := hT.l12
  have hmx := mkC_mx nd sz hp3
  refine ⟨rfl, by show hs.length ≤ 2000000; first | omega | assumption, fun h1 => ?_, fun h1 => ?_⟩
  ·replace h1 : (idxF me hs 0) < 0 := h1
   refine ⟨rfl, trivial, ⟨rfl, rfl, rfl, Nat.le_of_ble_eq_true rfl⟩, ?_⟩
   have e : begE hs nd wr sz st ph me sh nz = 8 := by unfold begE; rw [if_pos (Classical.not_not.1 h0), if_pos h1]
   obtain ⟨e1, e2, e3, e4, e5⟩ := beg_err (show begE hs nd wr sz st ph me sh nz ≠ 0 by rw [e]; decide)
   rw [e1, e2, e3, e4, e5, e]
   exact ⟨rfl, rfl, rfl, rfl⟩
  ·replace h1 : ¬ ((idxF me hs 0) < 0) := h1
   have hix := idx_lt h1
   refine ⟨rfl, rfl, by show nd ≤ 2; first | omega | assumption, ⟨rfl, rfl, rfl, Nat.le_of_ble_eq_true rfl⟩, fun h2 => ?_, fun h2 => ?_⟩
   ·replace h2 : ¬ ((mkE nd sz nz) ≠ 0) := h2
    refine ⟨fun h3 => ?_, fun h3 => ?_⟩
    ·replace h3 : (sh.length : Int) ≠ sz := h3
     refine ⟨rfl, trivial, ⟨rfl, rfl, rfl, Nat.le_of_ble_eq_true rfl⟩, ?_⟩
     have e : begE hs nd wr sz st ph me sh nz = 1 := by unfold begE; rw [if_pos (Classical.not_not.1 h0), if_neg h1, if_neg (fun g => h3 g.2)]
     obtain ⟨e1, e2, e3, e4, e5⟩ := beg_err (show begE hs nd wr sz st ph me sh nz ≠ 0 by rw [e]; decide)
     rw [e1, e2, e3, e4, e5, e]
     exact ⟨rfl, rfl, rfl, rfl⟩
    ·replace h3 : ¬ ((sh.length : Int) ≠ sz) := h3
     have hrl : (List.replicate hs.length ([] : List (List UInt8))).length = hs.length := List.length_replicate ..
     have hrl2 : (List.replicate hs.length ([] : List (List (List UInt8)))).length = hs.length := List.length_replicate ..
     refine ⟨by kernel_rfl, ⟨rfl, by show (0 : Int) ≤ (hs.length : Int); omega, by show (hs.length : Int) ≤ (1000000000 : Int); omega⟩, ⟨rfl, by show (0 : Int) ≤ (hs.length : Int); omega, by show (hs.length : Int) ≤ (1000000000 : Int); omega⟩, ⟨rfl, rfl, rfl, Nat.le_of_ble_eq_true rfl⟩, 7, [(4, .k), (5, .k), (8, .k), (13, .k), (14, .k), (16, .k), (17, .k), (80, .k), (81, .k)], fun nM vs H => ∃ (k : Nat), k ≤ hs.length ∧ nM = hs.length - k ∧ vs = [.ptr 0 1 0 0, .ptr 1 1 0 0, .ptr 2 1 0 0, .int .i64 (idxF me hs 0), .ptr 3 1 0 0, .int .i64 (hs.length : Int), .ptr 5 1 0 0, .int .i64 (((List.replicate hs.length []).length : Nat) : Int), .int .i64 (k : Int)] ∧ H = [.cells [.sl false (.int .i64) hs, .int .i64 nd, .int .i64 wr, .int .i64 sz, .int .i64 st, .int .i64 ph], .cells [.int .i64 me], .cells [.int .i64 0, .str ([]), .nils, .nils], .cells [.int .i64 (mkN nd sz nz), .sl true (.sl .str) (mkC nd sz nz)], .row true (.sl (.sl .str)) (fil [] (fun _ => List.replicate hs.length []) hs.length k), .cells [.int .i64 me, .str sh, .own (.sl .str) 6, .own (.sl (.sl .str)) 4], .row true (.sl .str) (List.replicate hs.length [])], ⟨rfl, hs.length, 0, by omega, by omega, rfl, by rw [fil_zero]; rfl⟩, ?_⟩
     rintro nM vs H ⟨k, hc1_0, rfl, rfl, rfl⟩
     refine ⟨fun h4 => ?_, fun h4 => ?_⟩
     ·replace h4 : (k : Int) < (((List.replicate hs.length []).length : Nat) : Int) := h4
      have hst : fil [] (fun _ => List.replicate hs.length []) hs.length (k + 1) = (fil [] (fun _ => List.replicate hs.length []) hs.length k).set k (List.replicate hs.length ([] : List (List UInt8))) := (fil_set (by omega)).symm
      have hfl := fil_len [] (fun _ => List.replicate hs.length ([] : List (List UInt8))) hs.length k
      refine ⟨by kernel_rfl, ⟨rfl, by show (0 : Int) ≤ (hs.length : Int); omega, by show (hs.length : Int) ≤ (1000000000 : Int); omega⟩, (i0 (k : Int) ((fil [] (fun _ => List.replicate hs.length []) hs.length k).length : Int)), ⟨fun h => (by first | rfl | cases h), rfl, rfl⟩, (r64 ((k : Int) + 1)), ?_⟩
      exact ⟨rfl, hs.length - (k + 1), by omega, k + 1, by omega, rfl, rfl, by rw [hst]; rfl⟩
     ·replace h4 : ¬ ((k : Int) < (((List.replicate hs.length []).length : Nat) : Int)) := h4
      refine ⟨by kernel_rfl, rfl, rfl, ⟨hmx.1, hmx.2⟩, (i0 (idxF me hs 0) ((List.replicate hs.length []).length : Int)), ⟨fun h => (by first | rfl | cases h), rfl, rfl⟩, rfl, rfl, rfl, rfl, rfl, rfl, trivial, rfl, rfl, rfl, rfl, rfl, rfl, rfl, ⟨by show hs.length ≤ 2000000; first | omega | assumption, fun _ _ => rfl⟩, 11, [(5, .k), (8, .k), (14, .k), (17, .k), (19, .c [(0, (.cons (.int .i64) (.cons (.int .i64) (.cons (.int .i64) (.cons (.int .i64) (.cons (.sl .str) .nil))))))])], fun n vs H => n ≤ (oth me 0 hs).length ∧ vs = [.ptr 1 1 0 0, .ptr 2 1 0 0, .ptr 3 1 0 0, .ptr 5 1 0 0, .ptr 7 1 0 0] ∧ H = [.cells [.sl false (.int .i64) hs, .int .i64 nd, .int .i64 wr, .int .i64 sz, .int .i64 st, .int .i64 ph], .cells [.int .i64 me], .cells [.int .i64 0, .str ([]), .nils, .nils], .cells [.int .i64 (mkN nd sz nz), .sl true (.sl .str) (mkC nd sz nz)], .row true (.sl (.sl .str)) (fil [] (fun _ => List.replicate hs.length []) hs.length k), .cells [.int .i64 me, .str sh, .own (.sl .str) 6, .own (.sl (.sl .str)) 4], .row true (.sl .str) ((List.replicate hs.length []).set ((idxF me hs 0).toNat) (rowL (mkN nd sz nz) (mkC nd sz nz) me)), .cells [.own (.cons (.int .i64) (.cons (.int .i64) (.cons (.int .i64) (.cons (.int .i64) (.cons (.sl .str) .nil))))) 10], .dead, .dead, .row true (.cons (.int .i64) (.cons (.int .i64) (.cons (.int .i64) (.cons (.int .i64) (.cons (.sl .str) .nil))))) (beg1 hs nd sz me nz n)], ⟨rfl, by omega, rfl, rfl⟩, ?_, ?_⟩
      ·rintro n vs H ⟨hc2_0, rfl, rfl⟩ hn2
       replace hn2 : n < (oth me 0 hs).length := hn2
       have hbl := beg1_len hs nd sz me nz n
       refine ⟨rfl, rfl, ⟨hmx.1, hmx.2⟩, rfl, rfl, rfl, rfl, ⟨rfl, rfl⟩, by show (beg1 hs nd sz me nz n).length + ([(1, me, ((oth me 0 hs).getD n (0, 0)).2, me, rowL (mkN nd sz nz) (mkC nd sz nz) (((oth me 0 hs).getD n (0, 0)).2), ())] : List (Int × (Int × (Int × (Int × (List (List UInt8) × Unit)))))).length ≤ 1000000000; simp only [List.length_cons, List.length_nil]; omega, ⟨rfl, rfl, rfl⟩, ?_⟩
       exact ⟨rfl, rfl, by omega, rfl, by rw [beg1_snoc hn2]; rfl⟩
      ·rintro vs H ⟨hc2_0, rfl, rfl⟩
       refine ⟨by kernel_rfl, ⟨rfl, rfl, rfl, Nat.le_of_ble_eq_true rfl⟩, ?_⟩
       have e : begE hs nd wr sz st ph me sh nz = 0 := by unfold begE; rw [if_pos (Classical.not_not.1 h0), if_neg h1, if_pos ⟨Classical.not_not.1 h2, Classical.not_not.1 h3⟩]
       obtain ⟨e1, e2, e3, e4, e5⟩ := beg_ok e
       have e6 : begV hs nd wr sz st ph me sh nz = fil [] (fun _ => List.replicate hs.length []) hs.length k := e4.trans (by rw [show k = hs.length by omega, fil_const])
       rw [e1, e2, e3, e6, e5, e]
       exact ⟨rfl, rfl, rfl, rfl⟩
   ·replace h2 : (mkE nd sz nz) ≠ 0 := h2
    refine ⟨rfl, trivial, ⟨rfl, rfl, rfl, Nat.le_of_ble_eq_true rfl⟩, ?_⟩
    have e : begE hs nd wr sz st ph me sh nz = 1 := by unfold begE; rw [if_pos (Classical.not_not.1 h0), if_neg h1, if_neg (fun g => h2 g.1)]
    obtain ⟨e1, e2, e3, e4, e5⟩ := beg_err (show begE hs nd wr sz st ph me sh nz ≠ 0 by rw [e]; decide)
    rw [e1, e2, e3, e4, e5, e]
    exact ⟨rfl, rfl, rfl, rfl⟩
noncomputable def CBeg : List (Nat × Con) := (8, pureC [.v (.cons (.sl (.int .i64)) (.cons (.int .i64) (.cons (.int .i64) (.cons (.int .i64) (.cons (.int .i64) (.cons (.int .i64) .nil)))))), .v (.int .i64), .v .str, .v .str] sBeg) :: CBg1
theorem kBeg : Known Tryd.prog (En CBeg tys G6 QOth) := Known.frz0 <| (kBg1.frz [10000075, 9000087, 7100120]).add Tryd.func8 Tryd.call8 [.e [(2, (.sl .str)), (3, (.sl (.sl .str)))], .d (.cons (.int .i64) (.cons (.int .i64) (.cons (.int .i64) (.cons (.int .i64) (.cons (.sl .str) .nil))))), .k] fun ds p v bs h hp => by
 unfold sBeg at h
 split at h <;> simp only [Option.some.injEq, Prod.mk.injEq, reduceCtorEq] at h
 obtain ⟨rfl, rfl, rfl⟩ := h
 exact bBeg _ _ _ _ _ _ _ _ _ hp.1 hp.2.1 hp.2.2.1 hp.2.2.2
end Go.Proofs.YtpfehhcljeagoaaDoor.S28c

namespace Go.Proofs.YtpfehhcljeagoaaDoor.S28c
open Go Go.Proofs.YtpfehhcljeagoaaDoor.Vc Go.Proofs Go.Proofs.YtpfehhcljeagoaaDoor.S28
set_option maxRecDepth 100000
theorem vdL_mem {hs : List Int} {wr : Int} {es : Ps} {v : Int × Int × Unit} : ∀ k, k ≤ hs.length → v ∈ vdL hs wr es k → v.1 ∈ hs
 | 0, _, h => by simp [vdL] at h
 | k + 1, hk, h => by
  rw [vdL] at h
  rcases List.mem_append.1 h with h | h
  ·exact vdL_mem k (by omega) h
  ·unfold vd1 at h
   split at h
   ·simp only [List.mem_singleton] at h
    subst h
    exact gmem 0 hs k (by omega)
   ·cases h
theorem dec_mem {hs : List Int} {nd wr sz st ph : Int} {l : List RP} {v : Int × Int × Unit} (h : v ∈ decL hs nd wr sz st ph l) : v.1 ∈ hs := by
 unfold decL at h
 split at h
 ·exact vdL_mem _ (Nat.le_refl _) h
 ·cases h
theorem dec_len (hs : List Int) (nd wr sz st ph : Int) (l : List RP) : (decL hs nd wr sz st ph l).length ≤ hs.length := by
 unfold decL
 split
 ·exact vdL_len ..
 ·exact Nat.zero_le _
/-- The row that a verdict speaks of. -/
def finR (hs : List Int) (rows : List (List (List UInt8))) (v : Int × Int × Unit) : List (List UInt8) := rows.getD (idxF v.1 hs 0).toNat []
noncomputable def finL (hs : List Int) (nd wr sz st ph : Int) (rows : List (List (List UInt8))) (l : List RP) : List (List (List UInt8)) := (decL hs nd wr sz st ph l).map (finR hs rows)
noncomputable def finE (hs : List Int) (nd wr sz st ph me : Int) (sh : List UInt8) (rows : List (List (List UInt8))) (l : List RP) : Int :=
 if tkE hs nd wr sz st ph = 0 then (if (finL hs nd wr sz st ph rows l).all (fun r => decide (0 < r.length)) = true then updE me sh (finL hs nd wr sz st ph rows l) else 17) else tkE hs nd wr sz st ph
noncomputable def finH (hs : List Int) (nd wr sz st ph me : Int) (sh : List UInt8) (rows : List (List (List UInt8))) (l : List RP) : Int :=
 if finE hs nd wr sz st ph me sh rows l = 0 then me else 0
noncomputable def finS (hs : List Int) (nd wr sz st ph me : Int) (sh : List UInt8) (rows : List (List (List UInt8))) (l : List RP) : List UInt8 :=
 if finE hs nd wr sz st ph me sh rows l = 0 then updB me sh (finL hs nd wr sz st ph rows l) else []
theorem fin_err {hs : List Int} {nd wr sz st ph me : Int} {sh : List UInt8} {rows : List (List (List UInt8))} {l : List RP} (h : finE hs nd wr sz st ph me sh rows l ≠ 0) : finH hs nd wr sz st ph me sh rows l = 0 ∧ finS hs nd wr sz st ph me sh rows l = [] := ⟨if_neg h, if_neg h⟩
theorem fin_upd {hs : List Int} {nd wr sz st ph me : Int} {sh : List UInt8} {rows : List (List (List UInt8))} {l : List RP} (h : finE hs nd wr sz st ph me sh rows l = updE me sh (finL hs nd wr sz st ph rows l)) : finH hs nd wr sz st ph me sh rows l = updH me sh (finL hs nd wr sz st ph rows l) ∧ finS hs nd wr sz st ph me sh rows l = updS me sh (finL hs nd wr sz st ph rows l) := by
 unfold finH finS updH updS
 rw [h]
 exact ⟨rfl, rfl⟩
instance decMl1 : DecidableEq (List (List UInt8) × Unit) := inferInstance
instance decMl2 : DecidableEq (Int × (List (List UInt8) × Unit)) := inferInstance
instance decMl3 : DecidableEq (Int × (Int × (List (List UInt8) × Unit))) := inferInstance
instance decMl4 : DecidableEq (Int × (Int × (Int × (List (List UInt8) × Unit)))) := inferInstance
instance decMl5 : DecidableEq Ml := inferInstanceAs (DecidableEq (Int × (Int × (Int × (Int × (List (List UInt8) × Unit))))))
/-! ### the same, to be reckoned -/
instance (e : Int × List Int) (k set h : Int) : Decidable (bad1 e k set h) := by unfold bad1; infer_instance
def fitsB (es : Ps) (k set h : Int) : Bool := match mget es h with
 | none => false
 | some ag => decide ((((ag.getD k.toNat 0).toNat &&& (nxt set h).toNat : Nat) : Int) = nxt set h) && es.all fun e => decide (¬ bad1 e k set h)
theorem fitsB_iff {es : Ps} {k set h : Int} : fitsB es k set h = true ↔ fits es k set h := by
 unfold fitsB fits
 cases hm : mget es h with
 | none => exact ⟨fun g => Bool.noConfusion g, fun ⟨_, g, _⟩ => by cases g⟩
 | some ag =>
  rw [Bool.and_eq_true, decide_eq_true_iff, List.all_eq_true]
  exact ⟨fun ⟨g1, g2⟩ => ⟨ag, rfl, g1, fun e he => of_decide_eq_true (g2 e he)⟩, fun ⟨a, e, g1, g2⟩ => by cases e; exact ⟨g1, fun e he => decide_eq_true (g2 e he)⟩⟩
def clD (es : Ps) (k : Int) : List Int → Int → Int → Int
 | [], set, more => if more = 0 then set else -1
 | h :: l, set, more => if more = 0 then set else if fitsB es k set h = true then (if 0 ≤ clD es k l (nxt set h) (more - 1) then clD es k l (nxt set h) (more - 1) else clD es k l set more) else clD es k l set more
theorem cl_D (es : Ps) (k : Int) : ∀ (l : List Int) (set more : Int), cl es k l set more = clD es k l set more
 | [], set, more => by
  rw [cl, clD]
 | a :: l, set, more => by
  rw [cl, clD, cl_D es k l, cl_D es k l]
  by_cases h : more = 0
  ·repeat rw [if_pos h]
  repeat rw [if_neg h]
  by_cases g : fits es k set a
  ·rw [if_pos g, if_pos (fitsB_iff.2 g)]
  ·rw [if_neg g, if_neg (fun h => g (fitsB_iff.1 h))]
def putD (hs : List Int) (es : Ps) (p : RP) : Ps :=
 if mget es p.1 = none ∧ (¬ ∃ x ∈ p.2.1, wildE (allS hs) x) ∧ (p.2.1.length : Int) = (hs.length : Int) ∧ p.1 ∈ hs then mput es p.1 p.2.1 else es
theorem put_D (hs : List Int) : putP hs = putD hs := by
 funext es p
 unfold putP putD
 by_cases h : mget es p.1 = none ∧ (¬ ∃ x ∈ p.2.1, wildE (allS hs) x) ∧ (p.2.1.length : Int) = (hs.length : Int) ∧ p.1 ∈ hs
 ·repeat rw [if_pos h]
 ·repeat rw [if_neg h]
def vdD (hs : List Int) (wr : Int) (es : Ps) : Nat → List (Int × Int × Unit)
 | 0 => []
 | k + 1 => vdD hs wr es k ++ (if 0 ≤ clD es (k : Int) (hs.drop 0) 0 ((hs.length : Int) - wr) then [(hs.getD k 0, clD es (k : Int) (hs.drop 0) 0 ((hs.length : Int) - wr), ())] else [])
theorem vd_D (hs : List Int) (wr : Int) (es : Ps) : ∀ k, vdL hs wr es k = vdD hs wr es k
 | 0 => rfl
 | k + 1 => by rw [vdL, vdD, vd_D hs wr es k, vd1, cl_D]
def decD (hs : List Int) (nd wr sz st ph : Int) (l : List RP) : List (Int × Int × Unit) :=
 if tkE hs nd wr sz st ph = 0 then vdD hs wr (l.foldl (putD hs) []) hs.length else []
theorem dec_D (hs : List Int) (nd wr sz st ph : Int) (l : List RP) : decL hs nd wr sz st ph l = decD hs nd wr sz st ph l := by
 unfold decL decD esL
 rw [vd_D, put_D]
def finD (hs : List Int) (nd wr sz st ph : Int) (rows : List (List (List UInt8))) (l : List RP) : List (List (List UInt8)) := (decD hs nd wr sz st ph l).map (finR hs rows)
theorem fin_D (hs : List Int) (nd wr sz st ph : Int) (rows : List (List (List UInt8))) (l : List RP) : finL hs nd wr sz st ph rows l = finD hs nd wr sz st ph rows l := by
 unfold finL finD
 rw [dec_D]
def finF (hs : List Int) (nd wr sz st ph me : Int) (sh : List UInt8) (rows : List (List (List UInt8))) (l : List RP) : Int :=
 if tkE hs nd wr sz st ph = 0 then (if (finD hs nd wr sz st ph rows l).all (fun r => decide (0 < r.length)) = true then updE me sh (finD hs nd wr sz st ph rows l) else 17) else tkE hs nd wr sz st ph
theorem finE_D (hs : List Int) (nd wr sz st ph me : Int) (sh : List UInt8) (rows : List (List (List UInt8))) (l : List RP) : finE hs nd wr sz st ph me sh rows l = finF hs nd wr sz st ph me sh rows l := by
 unfold finE finF
 rw [fin_D]
theorem finH_D (hs : List Int) (nd wr sz st ph me : Int) (sh : List UInt8) (rows : List (List (List UInt8))) (l : List RP) : finH hs nd wr sz st ph me sh rows l = if finF hs nd wr sz st ph me sh rows l = 0 then me else 0 := by
 unfold finH
 rw [finE_D]
theorem finS_D (hs : List Int) (nd wr sz st ph me : Int) (sh : List UInt8) (rows : List (List (List UInt8))) (l : List RP) : finS hs nd wr sz st ph me sh rows l = if finF hs nd wr sz st ph me sh rows l = 0 then updB me sh (finD hs nd wr sz st ph rows l) else [] := by
 unfold finS
 rw [finE_D, fin_D]
end Go.Proofs.YtpfehhcljeagoaaDoor.S28c

/- Texts of this claim: S28.XR2, S28.XPd, S28.XR3, S28.XPe, S28.XR4, S28.XPf, S28.XR5, S28.XPg, S28.XPh, S28.XPi, S28.XT1. -/
import Derived.Test.YtpfehhcljeagoaaDoorS2
set_option linter.unusedVariables false
set_option linter.unusedSimpArgs false
namespace Go.Proofs.YtpfehhcljeagoaaDoor.S28c
open Go Go.Proofs.YtpfehhcljeagoaaDoor.Vc Go.Proofs
set_option maxRecDepth 100000
set_option linter.unusedVariables false
open Go.Proofs.YtpfehhcljeagoaaDoor.S28
noncomputable def sCou : List V → Option (Prop × V × List Blk)
 | [.agg [.sl false (.int .i64) hs, .int .i64 nd, .int .i64 wr, .int .i64 sz, .int .i64 st, .int .i64 ph], .agg [.int .i64 p0, .sl false (.int .i64) p1]] => some (hs.length ≤ 12 ∧ hsF (-1) hs = true ∧ p1.length ≤ 1048576, .b (cntP hs p0 p1), [])
 | _ => none
set_option maxHeartbeats 1000000 in
theorem bCou (hs : List Int) (nd : Int) (wr : Int) (sz : Int) (st : Int) (ph : Int) (p0 : Int) (p1 : List Int) (hp0 : hs.length ≤ 12) (hp1 : hsF (-1) hs = true) (hp2 : p1.length ≤ 1048576) : bodyP (En CDec tys G6 []) Tryd.f38 [.k] [.agg [.sl false (.int .i64) hs, .int .i64 nd, .int .i64 wr, .int .i64 sz, .int .i64 st, .int .i64 ph], .agg [.int .i64 p0, .sl false (.int .i64) p1]] (.b (cntP hs p0 p1)) [] := by
 have hsb : ∀ x ∈ hs, 0 ≤ x ∧ x < 12 := fun x hx => by
  obtain ⟨i, hi, rfl⟩ := List.mem_iff_getElem.1 hx
  have := hsF_at hs (-1) i hp1 hi
  rw [gD hi] at this
  omega
 refine ⟨rfl, rfl, rfl, rfl, rfl, rfl, by show hs.length ≤ 2000000; first | omega | assumption, fun h0 => ?_, fun h0 => ?_⟩
 ·replace h0 : ¬ ((idxF p0 hs 0) < 0) := h0
  refine ⟨fun h1 => ?_, fun h1 => ?_⟩
  ·replace h1 : (p1.length : Int) ≠ (hs.length : Int) := h1
   exact ⟨rfl, rfl, congrArg V.b (propext ⟨fun h => Bool.noConfusion h, fun h => False.elim (h1 (by have := h.2.1; omega))⟩), rfl⟩
  ·replace h1 : ¬ ((p1.length : Int) ≠ (hs.length : Int)) := h1
   refine ⟨2, [(2, .k), (3, .k), (5, .k), (6, .k)], fun nM vs H => ∃ (k : Nat), k ≤ hs.length ∧ nM = hs.length - k ∧ vs = [.ptr 0 1 0 0, .ptr 1 1 0 0, .int .i64 (allS (hs.take k)), .int .i64 (k : Int)] ∧ H = [.cells [.sl false (.int .i64) hs, .int .i64 nd, .int .i64 wr, .int .i64 sz, .int .i64 st, .int .i64 ph], .cells [.int .i64 p0, .sl false (.int .i64) p1]], ⟨rfl, hs.length, 0, by omega, by omega, rfl, rfl⟩, ?_⟩
   rintro nM vs H ⟨k, hc1_0, rfl, rfl, rfl⟩
   refine ⟨fun h2 => ?_, fun h2 => ?_⟩
   ·replace h2 : (k : Int) < (hs.length : Int) := h2
    have hkl : k < hs.length := by omega
    obtain ⟨g0, g1⟩ := hsb _ (gmem 0 hs k hkl)
    obtain ⟨p0_, p1_⟩ := pw12 g0 g1
    obtain ⟨a0, a1⟩ := allS_bd hsb k
    have hst := allS_sum hp1 hkl
    refine ⟨(i0 (k : Int) (hs.length : Int)), rfl, ⟨by show 0 ≤ (hs.getD k 0); first | omega | assumption, by show (hs.getD k 0) < 12; first | omega | assumption⟩, (r64 ((allS (hs.take k)) + ((2 : Int) ^ ((hs.getD k 0)).toNat))), (r64 ((k : Int) + 1)), ?_⟩
    exact ⟨rfl, hs.length - (k + 1), by omega, k + 1, by omega, rfl, by rw [hst]; rfl, rfl⟩
   ·replace h2 : ¬ ((k : Int) < (hs.length : Int)) := h2
    have hk : hs.take k = hs := List.take_of_length_le (by omega)
    obtain ⟨a0, a1⟩ := allS_bd hsb k
    refine ⟨2, [(3, .k), (5, .k), (7, .k)], fun nM vs H => ∃ (j : Nat), j ≤ p1.length ∧ (∀ x ∈ p1.take j, ¬ wildE (allS hs) x) ∧ nM = p1.length - j ∧ vs = [.ptr 1 1 0 0, .int .i64 (allS (hs.take k)), .int .i64 (j : Int)] ∧ H = [.cells [.sl false (.int .i64) hs, .int .i64 nd, .int .i64 wr, .int .i64 sz, .int .i64 st, .int .i64 ph], .cells [.int .i64 p0, .sl false (.int .i64) p1]], ⟨rfl, p1.length, 0, by omega, fun x hx => by simp at hx, by omega, rfl, rfl⟩, ?_⟩
    rintro nM vs H ⟨j, hc2_0, hc2_1, rfl, rfl, rfl⟩
    refine ⟨fun h3 => ?_, fun h3 => ?_⟩
    ·replace h3 : (j : Int) < (p1.length : Int) := h3
     have hjl : j < p1.length := by omega
     refine ⟨by kernel_rfl, (i0 (j : Int) (p1.length : Int)), fun h4 => ?_, fun h4 => ?_⟩
     ·replace h4 : ¬ ((p1.getD j 0) < 0) := h4
      refine ⟨fun h5 => ?_, fun h5 => absurd h5 (show ¬ ((p1.getD j 0) < 0) by first | omega | assumption | simp_all)⟩
      refine ⟨fun h6 => ?_, fun h6 => absurd h6 (show ¬ ((p1.getD j 0) < 0) by first | omega | assumption | simp_all)⟩
      refine ⟨fun h7 => ?_, fun h7 => absurd h7 (show ¬ ((p1.getD j 0) < 0) by first | omega | assumption | simp_all)⟩
      refine ⟨(i0 (j : Int) (p1.length : Int)), fun h8 => ?_, fun h8 => absurd h8 (show ¬ ((p1.getD j 0) < 0) by first | omega | assumption | simp_all)⟩
      refine ⟨fun h9 => ?_, fun h9 => absurd h9 (show ¬ ((p1.getD j 0) < 0) by first | omega | assumption | simp_all)⟩
      refine ⟨fun h10 => ?_, fun h10 => absurd h10 (show ¬ ((p1.getD j 0) < 0) by first | omega | assumption | simp_all)⟩
      refine .inl ⟨⟨by show (0 : Int) ≤ (p1.getD j 0); omega, by show (0 : Int) ≤ (allS (hs.take k)); omega⟩, ?_⟩
      refine ⟨fun h11 => ?_, fun h11 => absurd h11 (show ¬ ((p1.getD j 0) < 0) by first | omega | assumption | simp_all)⟩
      refine ⟨fun h12 => ?_, fun h12 => absurd h12 (show ¬ ((p1.getD j 0) < 0) by first | omega | assumption | simp_all)⟩
      refine ⟨fun h13 => ?_, fun h13 => absurd h13 (show ¬ ((p1.getD j 0) < 0) by first | omega | assumption | simp_all)⟩
      refine ⟨fun h14 => ?_, fun h14 => absurd h14 (show ¬ ((p1.getD j 0) < 0) by first | omega | assumption | simp_all)⟩
      refine ⟨(i0 (j : Int) (p1.length : Int)), fun h15 => ?_, fun h15 => absurd h15 (show ¬ ((p1.getD j 0) < 0) by first | omega | assumption | simp_all)⟩
      refine ⟨fun h16 => ?_, fun h16 => absurd h16 (show ¬ ((p1.getD j 0) < 0) by first | omega | assumption | simp_all)⟩
      refine ⟨fun h17 => absurd h17 (show ¬ ((p1.getD j 0) < 0) by first | omega | assumption | simp_all), fun h17 => ?_⟩
      refine ⟨fun h18 => ?_, fun h18 => ?_⟩
      ·replace h18 : ((((p1.getD j 0).toNat) &&& ((allS (hs.take k)).toNat) : Nat) : Int) ≠ (p1.getD j 0) := h18
       rw [hk] at h18
       exact ⟨rfl, rfl, congrArg V.b (propext ⟨fun h => Bool.noConfusion h, fun h => False.elim (h.2.2 ⟨_, gmem 0 p1 j hjl, wild_ne h18⟩)⟩), rfl⟩
      ·replace h18 : ¬ (((((p1.getD j 0).toNat) &&& ((allS (hs.take k)).toNat) : Nat) : Int) ≠ (p1.getD j 0)) := h18
       rw [hk] at h18
       have hnx : ∀ x ∈ p1.take (j + 1), ¬ wildE (allS hs) x := fun x hx => by
        rw [List.take_succ_eq_append_getElem hjl] at hx
        rcases List.mem_append.1 hx with hx | hx
        ·exact hc2_1 x hx
        ·obtain rfl : x = p1.getD j 0 := by rw [gD hjl]; simpa using hx
         exact wild_and h4 (Classical.not_not.1 h18)
       refine ⟨(r64 ((j : Int) + 1)), ?_⟩
       exact ⟨rfl, p1.length - (j + 1), by omega, j + 1, by omega, hnx, rfl, rfl, rfl⟩
     ·replace h4 : (p1.getD j 0) < 0 := h4
      refine ⟨fun h19 => absurd (show (p1.getD j 0) < 0 by first | omega | assumption | simp_all) h19, fun h19 => ?_⟩
      refine ⟨fun h20 => absurd (show (p1.getD j 0) < 0 by first | omega | assumption | simp_all) h20, fun h20 => ?_⟩
      refine ⟨fun h21 => absurd (show (p1.getD j 0) < 0 by first | omega | assumption | simp_all) h21, fun h21 => ?_⟩
      refine ⟨fun h22 => absurd (show (p1.getD j 0) < 0 by first | omega | assumption | simp_all) h22, fun h22 => ?_⟩
      refine ⟨fun h23 => absurd (show (p1.getD j 0) < 0 by first | omega | assumption | simp_all) h23, fun h23 => ?_⟩
      refine ⟨fun h24 => absurd (show (p1.getD j 0) < 0 by first | omega | assumption | simp_all) h24, fun h24 => ?_⟩
      refine ⟨fun h25 => absurd (show (p1.getD j 0) < 0 by first | omega | assumption | simp_all) h25, fun h25 => ?_⟩
      refine ⟨fun h26 => absurd (show (p1.getD j 0) < 0 by first | omega | assumption | simp_all) h26, fun h26 => ?_⟩
      refine ⟨fun h27 => absurd (show (p1.getD j 0) < 0 by first | omega | assumption | simp_all) h27, fun h27 => ?_⟩
      refine ⟨fun h28 => absurd (show (p1.getD j 0) < 0 by first | omega | assumption | simp_all) h28, fun h28 => ?_⟩
      refine ⟨fun h29 => absurd (show (p1.getD j 0) < 0 by first | omega | assumption | simp_all) h29, fun h29 => ?_⟩
      refine ⟨fun h30 => absurd (show (p1.getD j 0) < 0 by first | omega | assumption | simp_all) h30, fun h30 => ?_⟩
      refine ⟨fun h31 => ?_, fun h31 => absurd (show (p1.getD j 0) < 0 by first | omega | assumption | simp_all) h31⟩
      exact ⟨rfl, rfl, congrArg V.b (propext ⟨fun h => Bool.noConfusion h, fun h => False.elim (h.2.2 ⟨_, gmem 0 p1 j hjl, .inl h4⟩)⟩), rfl⟩
    ·replace h3 : ¬ ((j : Int) < (p1.length : Int)) := h3
     exact ⟨rfl, rfl, congrArg V.b (propext ⟨fun _ => ⟨(idxF_mem p0 hs 0 (by omega)).1 (by omega), by omega, fun ⟨x, hx, hw⟩ => hc2_1 x (by rw [List.take_of_length_le (by omega)]; exact hx) hw⟩, fun _ => rfl⟩), rfl⟩
 ·replace h0 : (idxF p0 hs 0) < 0 := h0
  exact ⟨rfl, rfl, congrArg V.b (propext ⟨fun h => Bool.noConfusion h, fun h => False.elim (by have := (idxF_mem p0 hs 0 (by omega)).2 h.1; omega)⟩), rfl⟩
noncomputable def CCou : List (Nat × Con) := (38, pureC [.v (.cons (.sl (.int .i64)) (.cons (.int .i64) (.cons (.int .i64) (.cons (.int .i64) (.cons (.int .i64) (.cons (.int .i64) .nil)))))), .v (.cons (.int .i64) (.cons (.sl (.int .i64)) .nil))] sCou) :: CDec
theorem kCou : Known Tryd.prog (En CCou tys G6 []) := kDec.add Tryd.func38 Tryd.call38 [.k] fun ds p v bs h hp => by
 unfold sCou at h
 split at h <;> simp only [Option.some.injEq, Prod.mk.injEq, reduceCtorEq] at h
 obtain ⟨rfl, rfl, rfl⟩ := h
 exact bCou _ _ _ _ _ _ _ _ hp.1 hp.2.1 hp.2.2
end Go.Proofs.YtpfehhcljeagoaaDoor.S28c

namespace Go.Proofs.YtpfehhcljeagoaaDoor.S28c
open Go Go.Proofs.YtpfehhcljeagoaaDoor.Vc Go.Proofs Go.Proofs.YtpfehhcljeagoaaDoor.S28
set_option maxRecDepth 100000
/-- For each house its set about a dealer; 0 if it has posted none. -/
def ouL (hs : List Int) (es : Ps) (d : Int) : List Int := hs.map fun h => ((mget es h).getD []).getD d.toNat 0
/-- Which houses have posted. -/
def knL (hs : List Int) (es : Ps) : List Bool := hs.map fun h => (mget es h).isSome
theorem ouL_len (hs : List Int) (es : Ps) (d : Int) : (ouL hs es d).length = hs.length := List.length_map ..
theorem knL_len (hs : List Int) (es : Ps) : (knL hs es).length = hs.length := List.length_map ..
theorem ou0 (hs : List Int) (d : Int) : ouL hs (esL hs []) d = List.replicate hs.length 0 := (List.map_const' : List.map (fun _ => (0 : Int)) hs = _)
theorem kn0 (hs : List Int) : knL hs (esL hs []) = List.replicate hs.length false := (List.map_const' : List.map (fun _ => false) hs = _)
theorem idxF_pos (x : Int) : ∀ (l : List Int) (k : Nat), x ∈ l → ∃ i : Nat, i < l.length ∧ idxF x l k = (k : Int) + i ∧ l.getD i 0 = x
 | [], _, h => by cases h
 | a :: l, k, h => by
  unfold idxF
  by_cases e : x = a
  ·exact ⟨0, by simp, by rw [if_pos e]; simp, by simp [e]⟩
  ·rw [if_neg e]
   obtain ⟨i, h1, h2, h3⟩ := idxF_pos x l (k + 1) ((List.mem_cons.1 h).resolve_left e)
   refine ⟨i + 1, by simp; omega, ?_, by simpa using h3⟩
   rw [show ((k : Int) + 1) = ((k + 1 : Nat) : Int) by omega, h2]; omega
theorem pos_of {hs : List Int} {p : Int} (h : p ∈ hs) : 0 ≤ idxF p hs 0 ∧ (idxF p hs 0).toNat < hs.length ∧ hs.getD (idxF p hs 0).toNat 0 = p := by
 obtain ⟨i, h1, h2, h3⟩ := idxF_pos p hs 0 h
 have h2 : idxF p hs 0 = (0 : Int) + i := h2
 have e : (idxF p hs 0).toNat = i := by omega
 exact ⟨by omega, by omega, by rw [e]; exact h3⟩
theorem nodup_hs {hs : List Int} (hh : hsF (-1) hs = true) {i j : Nat} (hi : i < hs.length) (hj : j < hs.length) (e : hs.getD i 0 = hs.getD j 0) : i = j := by
 have key : ∀ a b : Nat, a < b → b < hs.length → hs.getD a 0 < hs.getD b 0 := fun a b hab hb => by
  refine (sorted_take hs (-1) b hh hb).2 _ ?_
  rw [gD (show a < hs.length by omega)]
  exact List.mem_take_iff_getElem.2 ⟨a, by omega, rfl⟩
 rcases Nat.lt_trichotomy i j with h | h | h
 ·have := key i j h hj; omega
 ·exact h
 ·have := key j i h hi; omega
theorem mget_mput (n m : Int) (x : List Int) : ∀ es : Ps, mget (mput es n x) m = if n = m then some x else mget es m
 | [] => by simp [mput, mget]
 | (a, y) :: es => by
  have ih := mget_mput n m x es
  unfold mput
  by_cases e : a = n
  ·rw [if_pos e]
   subst e
   simp only [mget]
   split <;> rfl
  ·rw [if_neg e]
   simp only [mget]
   rw [ih]
   by_cases e2 : a = m
   ·rw [if_pos e2, if_pos e2, if_neg (by omega)]
   ·rw [if_neg e2, if_neg e2]
theorem map_put {α : Type} {hs : List Int} {es : Ps} {p : Int} {x : List Int} (f : Option (List Int) → α) (hh : hsF (-1) hs = true) (hp : p ∈ hs) : (hs.map fun h => f (mget (mput es p x) h)) = (hs.map fun h => f (mget es h)).set (idxF p hs 0).toNat (f (some x)) := by
 obtain ⟨h0, h1, h2⟩ := pos_of hp
 refine List.ext_getElem (by simp) fun j hj1 hj2 => ?_
 rw [List.length_map] at hj1
 rw [List.getElem_map, List.getElem_set, List.getElem_map, mget_mput]
 rw [gD h1] at h2
 by_cases e : (idxF p hs 0).toNat = j
 ·subst e
  rw [if_pos h2.symm, if_pos rfl]
 ·rw [if_neg e, if_neg fun he => e (nodup_hs hh h1 hj1 (by rw [gD h1, gD hj1, h2, he]))]
theorem ou_put {hs : List Int} {es : Ps} {p d : Int} {x : List Int} (hh : hsF (-1) hs = true) (hp : p ∈ hs) : ouL hs (mput es p x) d = (ouL hs es d).set (idxF p hs 0).toNat (x.getD d.toNat 0) := map_put (fun o => (o.getD []).getD d.toNat 0) hh hp
theorem kn_put {hs : List Int} {es : Ps} {p : Int} {x : List Int} (hh : hsF (-1) hs = true) (hp : p ∈ hs) : knL hs (mput es p x) = (knL hs es).set (idxF p hs 0).toNat true := map_put Option.isSome hh hp
theorem kn_at {hs : List Int} {es : Ps} {p : Int} (hp : p ∈ hs) : (knL hs es).getD (idxF p hs 0).toNat false = (mget es p).isSome := by
 obtain ⟨h0, h1, h2⟩ := pos_of hp
 rw [gD (by rw [knL_len]; exact h1)]
 unfold knL
 rw [List.getElem_map]
 rw [gD h1] at h2
 rw [h2]
theorem kn_same {hs : List Int} {es : Ps} {p : Int} (hp : p ∈ hs) (hk : (knL hs es).getD (idxF p hs 0).toNat false = true) : (knL hs es).set (idxF p hs 0).toNat true = knL hs es := by
 obtain ⟨h0, h1, h2⟩ := pos_of hp
 have hl : (idxF p hs 0).toNat < (knL hs es).length := by rw [knL_len]; exact h1
 rw [gD hl] at hk
 refine List.ext_getElem (by simp) fun j hj1 hj2 => ?_
 rw [List.getElem_set]
 split
 ·rename_i e; subst e; exact hk.symm
 ·rfl
theorem put_yes {hs : List Int} {es : Ps} {p : RP} (hc : cntP hs p.1 p.2.1) (hk : ¬ (knL hs es).getD (idxF p.1 hs 0).toNat false = true) : putP hs es p = mput es p.1 p.2.1 := by
 rw [kn_at hc.1] at hk
 have hn : mget es p.1 = none := by cases h : mget es p.1 with | none => rfl | some y => rw [h] at hk; simp at hk
 exact if_pos ⟨hn, hc.2.2, by have := hc.2.1; omega, hc.1⟩
theorem put_old {hs : List Int} {es : Ps} {p : RP} (hc : cntP hs p.1 p.2.1) (hk : (knL hs es).getD (idxF p.1 hs 0).toNat false = true) : putP hs es p = es := by
 rw [kn_at hc.1] at hk
 exact if_neg fun h => by rw [h.1] at hk; simp at hk
theorem put_no {hs : List Int} {es : Ps} {p : RP} (hc : ¬ cntP hs p.1 p.2.1) : putP hs es p = es :=
 if_neg fun h => hc ⟨h.2.2.2, by have := h.2.2.1; omega, h.2.1⟩
end Go.Proofs.YtpfehhcljeagoaaDoor.S28c

namespace Go.Proofs.YtpfehhcljeagoaaDoor.S28c
open Go Go.Proofs.YtpfehhcljeagoaaDoor.Vc Go.Proofs
set_option maxRecDepth 100000
set_option linter.unusedVariables false
open Go.Proofs.YtpfehhcljeagoaaDoor.S28
noncomputable def sSets : List V → Option (Prop × V × List Blk)
 | [.agg [.sl false (.int .i64) hs, .int .i64 nd, .int .i64 wr, .int .i64 sz, .int .i64 st, .int .i64 ph], .sl false (.cons (.int .i64) (.cons (.sl (.int .i64)) .nil)) l, .int .i64 d] => some (hs.length ≤ 12 ∧ hsF (-1) hs = true ∧ l.length ≤ 20 ∧ (∀ p ∈ l, p.2.1.length ≤ 1048576) ∧ 0 ≤ d ∧ d < (hs.length : Int), .own (.int .i64) 0, [.row true (.int .i64) (ouL hs (esL hs l) d)])
 | _ => none
set_option maxHeartbeats 1000000 in
theorem bSets (hs : List Int) (nd : Int) (wr : Int) (sz : Int) (st : Int) (ph : Int) (l : List (Int × (List Int × Unit))) (d : Int) (hp0 : hs.length ≤ 12) (hp1 : hsF (-1) hs = true) (hp2 : l.length ≤ 20) (hp3 : (∀ p ∈ l, p.2.1.length ≤ 1048576)) (hp4 : 0 ≤ d) (hp5 : d < (hs.length : Int)) : bodyP (En CCou tys G6 []) Tryd.f23 [.o (.int .i64)] [.agg [.sl false (.int .i64) hs, .int .i64 nd, .int .i64 wr, .int .i64 sz, .int .i64 st, .int .i64 ph], .sl false (.cons (.int .i64) (.cons (.sl (.int .i64)) .nil)) l, .int .i64 d] (.own (.int .i64) 0) [.row true (.int .i64) (ouL hs (esL hs l) d)] := by
 refine ⟨⟨rfl, by show (0 : Int) ≤ (hs.length : Int); omega, by show (hs.length : Int) ≤ (1000000000 : Int); omega⟩, ⟨rfl, by show (0 : Int) ≤ (hs.length : Int); omega, by show (hs.length : Int) ≤ (1000000000 : Int); omega⟩, 1, [(1, .k), (2, .k), (3, .k), (7, .o (.int .i64)), (8, .o .bool), (9, .k)], fun nM vs H => ∃ (k : Nat), k ≤ l.length ∧ nM = l.length - k ∧ vs = [.sl false (.cons (.int .i64) (.cons (.sl (.int .i64)) .nil)) l, .int .i64 d, .ptr 0 1 0 0, .own (.int .i64) 1, .own .bool 2, .int .i64 (k : Int)] ∧ H = [.cells [.sl false (.int .i64) hs, .int .i64 nd, .int .i64 wr, .int .i64 sz, .int .i64 st, .int .i64 ph], .row true (.int .i64) (ouL hs (esL hs (l.take k)) d), .row true .bool (knL hs (esL hs (l.take k)))], ⟨rfl, l.length, 0, by omega, by omega, rfl, by rw [show ouL hs (esL hs (l.take 0)) d = List.replicate hs.length (0 : Int) from ou0 hs d, show knL hs (esL hs (l.take 0)) = List.replicate hs.length false from kn0 hs]; rfl⟩, ?_⟩
 rintro nM vs H ⟨k, hc1_0, rfl, rfl, rfl⟩
 refine ⟨fun h0 => ?_, fun h0 => ?_⟩
 ·replace h0 : (k : Int) < (l.length : Int) := h0
  have hkl : k < l.length := by omega
  have hpl := hp3 _ (gmem (0, ([], ())) l k hkl)
  have hol := ouL_len hs (esL hs (l.take k)) d
  have hkn := knL_len hs (esL hs (l.take k))
  have hst := esL_step (hs := hs) hkl
  refine ⟨by kernel_rfl, (i0 (k : Int) (l.length : Int)), rfl, rfl, rfl, rfl, rfl, rfl, ⟨by show hs.length ≤ 12; first | omega | assumption, by first | assumption | simp, by show (((l.getD k (0, ([], ()))).2).1).length ≤ 1048576; first | omega | assumption | (simp only [List.length_cons, List.length_nil, List.length_append, List.length_take, List.length_drop, List.length_set, List.length_replicate]; omega)⟩, fun h1 => ?_, fun h1 => ?_⟩
  ·replace h1 : cntP hs ((l.getD k (0, ([], ()))).1) (((l.getD k (0, ([], ()))).2).1) := h1
   obtain ⟨ix0, ix1, ix2⟩ := pos_of h1.1
   have hpd := h1.2.1
   refine ⟨by kernel_rfl, (i0 (k : Int) (l.length : Int)), rfl, rfl, rfl, rfl, rfl, rfl, by show hs.length ≤ 2000000; first | omega | assumption, (i0 (idxF ((l.getD k (0, ([], ()))).1) hs 0) ((knL hs (esL hs (l.take k))).length : Int)), fun h2 => ?_, fun h2 => ?_⟩
   ·replace h2 : ¬ (((knL hs (esL hs (l.take k))).getD ((idxF ((l.getD k (0, ([], ()))).1) hs 0).toNat) false) = true) := h2
    have ey := hst.trans (put_yes h1 h2)
    have dset : @decide (true = true) (Classical.propDecidable _) = true := @decide_eq_true _ (Classical.propDecidable _) rfl
    have eo2 : (ouL hs (esL hs (l.take k)) d).set (idxF (l.getD k (0, ([], ()))).1 hs 0).toNat ((l.getD k (0, ([], ()))).2.1.getD d.toNat 0) = ouL hs (esL hs (l.take (k + 1))) d := by rw [ey, ou_put hp1 h1.1]
    have ek2 : (knL hs (esL hs (l.take k))).set (idxF (l.getD k (0, ([], ()))).1 hs 0).toNat (@decide (true = true) (Classical.propDecidable _)) = knL hs (esL hs (l.take (k + 1))) := by rw [ey, kn_put hp1 h1.1, dset]
    refine ⟨(i0 (k : Int) (l.length : Int)), (i0 d ((((l.getD k (0, ([], ()))).2).1).length : Int)), (i0 (idxF ((l.getD k (0, ([], ()))).1) hs 0) ((ouL hs (esL hs (l.take k)) d).length : Int)), rfl, ⟨rfl, rfl⟩, (i0 (idxF ((l.getD k (0, ([], ()))).1) hs 0) ((knL hs (esL hs (l.take k))).length : Int)), ⟨rfl, rfl⟩, (r64 ((k : Int) + 1)), ?_⟩
    exact ⟨rfl, l.length - (k + 1), by omega, k + 1, by omega, rfl, rfl, by first | (rw [← ek2, ← eo2]; rfl) | (rw [← ek2, ey]; rfl) | (rw [ey]; rfl)⟩
   ·replace h2 : ¬ (¬ (((knL hs (esL hs (l.take k))).getD ((idxF ((l.getD k (0, ([], ()))).1) hs 0).toNat) false) = true)) := h2
    have ey := hst.trans (put_old h1 (Classical.not_not.1 h2))
    have ek := kn_same h1.1 (Classical.not_not.1 h2)
    have dset : @decide (true = true) (Classical.propDecidable _) = true := @decide_eq_true _ (Classical.propDecidable _) rfl
    have ek2 : (knL hs (esL hs (l.take k))).set (idxF (l.getD k (0, ([], ()))).1 hs 0).toNat (@decide (true = true) (Classical.propDecidable _)) = knL hs (esL hs (l.take (k + 1))) := by rw [ey, dset, ek]
    refine ⟨(i0 (idxF ((l.getD k (0, ([], ()))).1) hs 0) ((knL hs (esL hs (l.take k))).length : Int)), ⟨rfl, rfl⟩, (r64 ((k : Int) + 1)), ?_⟩
    exact ⟨rfl, l.length - (k + 1), by omega, k + 1, by omega, rfl, rfl, by first | (rw [← ek2, ← eo2]; rfl) | (rw [← ek2, ey]; rfl) | (rw [ey]; rfl)⟩
  ·replace h1 : ¬ (cntP hs ((l.getD k (0, ([], ()))).1) (((l.getD k (0, ([], ()))).2).1)) := h1
   have ey := hst.trans (put_no h1)
   refine ⟨(r64 ((k : Int) + 1)), ?_⟩
   exact ⟨rfl, l.length - (k + 1), by omega, k + 1, by omega, rfl, rfl, by first | (rw [← ek2, ← eo2]; rfl) | (rw [← ek2, ey]; rfl) | (rw [ey]; rfl)⟩
 ·replace h0 : ¬ ((k : Int) < (l.length : Int)) := h0
  rw [show l.take k = l from List.take_of_length_le (by omega)]
  exact ⟨rfl, rfl, rfl, rfl⟩
noncomputable def CSets : List (Nat × Con) := (23, pureC [.v (.cons (.sl (.int .i64)) (.cons (.int .i64) (.cons (.int .i64) (.cons (.int .i64) (.cons (.int .i64) (.cons (.int .i64) .nil)))))), .v (.sl (.cons (.int .i64) (.cons (.sl (.int .i64)) .nil))), .v (.int .i64)] sSets) :: CCou
theorem kSets : Known Tryd.prog (En CSets tys G6 []) := kCou.add Tryd.func23 Tryd.call23 [.o (.int .i64)] fun ds p v bs h hp => by
 unfold sSets at h
 split at h <;> simp only [Option.some.injEq, Prod.mk.injEq, reduceCtorEq] at h
 obtain ⟨rfl, rfl, rfl⟩ := h
 exact bSets _ _ _ _ _ _ _ _ hp.1 hp.2.1 hp.2.2.1 hp.2.2.2.1 hp.2.2.2.2.1 hp.2.2.2.2.2
end Go.Proofs.YtpfehhcljeagoaaDoor.S28c

namespace Go.Proofs.YtpfehhcljeagoaaDoor.S28c
open Go Go.Proofs.YtpfehhcljeagoaaDoor.Vc Go.Proofs Go.Proofs.YtpfehhcljeagoaaDoor.S28
set_option maxRecDepth 100000
/-- A house fits, as the reference has it; of the first i houses of the clique. -/
def fitK (hs ag : List Int) (set : Int) (k i : Nat) : Prop :=
 ((((ag.getD k 0).toNat &&& ((2 : Int) ^ (hs.getD k 0).toNat).toNat : Nat) : Int) = 2 ^ (hs.getD k 0).toNat ∧ (((ag.getD k 0).toNat &&& set.toNat : Nat) : Int) = set) ∧
  ∀ j, j < i → (set / 2 ^ (hs.getD j 0).toNat) % 2 = 1 → (((ag.getD j 0).toNat &&& ((2 : Int) ^ (hs.getD k 0).toNat).toNat : Nat) : Int) = 2 ^ (hs.getD k 0).toNat
open Classical in
/-- The first clique, as the reference looks for it, with so many houses left. -/
noncomputable def clR (hs ag : List Int) : Nat → Int → Int → Int
 | 0, set, more => if more = 0 then set else -1
 | m + 1, set, more => if more = 0 then set else
  if fitK hs ag set (hs.length - (m + 1)) hs.length then
   (if 0 ≤ clR hs ag m (set + 2 ^ (hs.getD (hs.length - (m + 1)) 0).toNat) (more - 1) then clR hs ag m (set + 2 ^ (hs.getD (hs.length - (m + 1)) 0).toNat) (more - 1) else clR hs ag m set more)
  else clR hs ag m set more
theorem clR_zero (hs ag : List Int) (set : Int) : ∀ m, clR hs ag m set 0 = set
 | 0 => by simp [clR]
 | m + 1 => by simp [clR]
section
variable {hs ag : List Int} {set more : Int} {k i : Nat}
open Classical in
theorem clR_at (h : k < hs.length) (hm : ¬ more = 0) : clR hs ag (hs.length - k) set more =
  if fitK hs ag set k hs.length then
   (if 0 ≤ clR hs ag (hs.length - (k + 1)) (set + 2 ^ (hs.getD k 0).toNat) (more - 1) then clR hs ag (hs.length - (k + 1)) (set + 2 ^ (hs.getD k 0).toNat) (more - 1) else clR hs ag (hs.length - (k + 1)) set more)
  else clR hs ag (hs.length - (k + 1)) set more := by
 obtain ⟨m, hm'⟩ : ∃ m, hs.length - k = m + 1 := ⟨hs.length - (k + 1), by omega⟩
 have e : hs.length - (m + 1) = k := by omega
 have e2 : hs.length - (k + 1) = m := by omega
 rw [hm', clR, if_neg hm, e, e2]
theorem clR_yes (h : k < hs.length) (hm : ¬ more = 0) (hf : fitK hs ag set k hs.length) (hx : 0 ≤ clR hs ag (hs.length - (k + 1)) (set + 2 ^ (hs.getD k 0).toNat) (more - 1)) : clR hs ag (hs.length - (k + 1)) (set + 2 ^ (hs.getD k 0).toNat) (more - 1) = clR hs ag (hs.length - k) set more := by
 rw [clR_at h hm, if_pos hf, if_pos hx]
theorem clR_no (h : k < hs.length) (hm : ¬ more = 0) (hx : ¬ 0 ≤ clR hs ag (hs.length - (k + 1)) (set + 2 ^ (hs.getD k 0).toNat) (more - 1)) : clR hs ag (hs.length - (k + 1)) set more = clR hs ag (hs.length - k) set more := by
 rw [clR_at h hm, if_neg hx]
 split <;> rfl
theorem clR_not (h : k < hs.length) (hm : ¬ more = 0) (hf : ¬ fitK hs ag set k hs.length) : clR hs ag (hs.length - (k + 1)) set more = clR hs ag (hs.length - k) set more := by
 rw [clR_at h hm, if_neg hf]
theorem fitK_step : fitK hs ag set k (i + 1) ↔ fitK hs ag set k i ∧ ((set / 2 ^ (hs.getD i 0).toNat) % 2 = 1 → (((ag.getD i 0).toNat &&& ((2 : Int) ^ (hs.getD k 0).toNat).toNat : Nat) : Int) = 2 ^ (hs.getD k 0).toNat) := by
 unfold fitK
 constructor
 ·rintro ⟨h1, h2⟩
  exact ⟨⟨h1, fun j hj => h2 j (by omega)⟩, h2 i (by omega)⟩
 ·rintro ⟨⟨h1, h2⟩, h3⟩
  refine ⟨h1, fun j hj => ?_⟩
  rcases Nat.lt_or_ge j i with h | h
  ·exact h2 j h
  ·obtain rfl : j = i := by omega
   exact h3
theorem fk_in (h : fitK hs ag set k i) (hi : (set / 2 ^ (hs.getD i 0).toNat) % 2 = 1) : fitK hs ag set k (i + 1) ↔ (((ag.getD i 0).toNat &&& ((2 : Int) ^ (hs.getD k 0).toNat).toNat : Nat) : Int) = 2 ^ (hs.getD k 0).toNat :=
 ⟨fun g => (fitK_step.1 g).2 hi, fun g => fitK_step.2 ⟨h, fun _ => g⟩⟩
theorem fk_out (h : fitK hs ag set k i) (hi : ¬ (set / 2 ^ (hs.getD i 0).toNat) % 2 = 1) : fitK hs ag set k (i + 1) ↔ true = true :=
 ⟨fun _ => rfl, fun _ => fitK_step.2 ⟨h, fun g => absurd g hi⟩⟩
theorem fk_no (h : ¬ fitK hs ag set k i) : fitK hs ag set k (i + 1) ↔ false = true :=
 ⟨fun g => absurd (fitK_step.1 g).1 h, fun g => Bool.noConfusion g⟩
theorem fk_no2 (h : ¬ fitK hs ag set k i) : fitK hs ag set k (i + 1) ↔ fitK hs ag set k i :=
 ⟨fun g => absurd (fitK_step.1 g).1 h, fun g => absurd g h⟩
end
end Go.Proofs.YtpfehhcljeagoaaDoor.S28c

namespace Go.Proofs.YtpfehhcljeagoaaDoor.S28c
open Go Go.Proofs.YtpfehhcljeagoaaDoor.Vc Go.Proofs
set_option maxRecDepth 100000
set_option linter.unusedVariables false
open Go.Proofs.YtpfehhcljeagoaaDoor.S28
noncomputable def sClq : List V → Option (Prop × V × List Blk)
 | [.agg [.sl false (.int .i64) hs, .int .i64 nd, .int .i64 wr, .int .i64 sz, .int .i64 st, .int .i64 ph], .sl false (.int .i64) ag, .int .i64 set, .int .i64 more, .int .i64 fr] => some (hs.length ≤ 12 ∧ (∀ x ∈ hs, 0 ≤ x ∧ x < 12) ∧ ag.length = hs.length ∧ (∀ x ∈ ag, 0 ≤ x) ∧ 0 ≤ set ∧ set + 2048 * ((hs.length : Int) - fr) ≤ 1000000 ∧ 0 ≤ more ∧ more ≤ 20 ∧ 0 ≤ fr ∧ fr ≤ (hs.length : Int), .int .i64 (clR hs ag (hs.length - Int.toNat fr) set more), [])
 | _ => none
def mClq : List V → Nat
 | [.agg [.sl false (.int .i64) hs, .int .i64 nd, .int .i64 wr, .int .i64 sz, .int .i64 st, .int .i64 ph], .sl false (.int .i64) ag, .int .i64 set, .int .i64 more, .int .i64 fr] => hs.length - Int.toNat fr
 | _ => 0
set_option maxHeartbeats 1000000 in
theorem bClq (hs : List Int) (nd : Int) (wr : Int) (sz : Int) (st : Int) (ph : Int) (ag : List Int) (set : Int) (more : Int) (fr : Int) (hp0 : hs.length ≤ 12) (hp1 : (∀ x ∈ hs, 0 ≤ x ∧ x < 12)) (hp2 : ag.length = hs.length) (hp3 : (∀ x ∈ ag, 0 ≤ x)) (hp4 : 0 ≤ set) (hp5 : set + 2048 * ((hs.length : Int) - fr) ≤ 1000000) (hp6 : 0 ≤ more) (hp7 : more ≤ 20) (hp8 : 0 ≤ fr) (hp9 : fr ≤ (hs.length : Int)) : bodyP (En ((22, pureC [.v (.cons (.sl (.int .i64)) (.cons (.int .i64) (.cons (.int .i64) (.cons (.int .i64) (.cons (.int .i64) (.cons (.int .i64) .nil)))))), .v (.sl (.int .i64)), .v (.int .i64), .v (.int .i64), .v (.int .i64)] (recS mClq (hs.length - Int.toNat fr) sClq)) :: CSets) tys G6 []) Tryd.f22 [.k] [.agg [.sl false (.int .i64) hs, .int .i64 nd, .int .i64 wr, .int .i64 sz, .int .i64 st, .int .i64 ph], .sl false (.int .i64) ag, .int .i64 set, .int .i64 more, .int .i64 fr] (.int .i64 (clR hs ag (hs.length - Int.toNat fr) set more)) [] := by
 refine ⟨fun h0 => ?_, fun h0 => ?_⟩
 ·replace h0 : more = 0 := h0
  subst h0
  rw [clR_zero]
  exact ⟨rfl, rfl, rfl, rfl⟩
 ·replace h0 : ¬ (more = 0) := h0
  refine ⟨1, [(1, .k), (2, .k), (3, .k), (5, .k), (11, .k)], fun nM vs H => ∃ (k : Nat), (k ≤ hs.length ∧ fr.toNat ≤ k) ∧ clR hs ag (hs.length - k) set more = clR hs ag (hs.length - fr.toNat) set more ∧ nM = hs.length - k ∧ vs = [.sl false (.int .i64) ag, .int .i64 set, .int .i64 more, .ptr 0 1 0 0, .int .i64 (k : Int)] ∧ H = [.cells [.sl false (.int .i64) hs, .int .i64 nd, .int .i64 wr, .int .i64 sz, .int .i64 st, .int .i64 ph]], ⟨rfl, hs.length - fr.toNat, fr.toNat, ⟨by omega, by omega⟩, rfl, rfl, congrArg (fun z : Int => [V.sl false (.int .i64) ag, V.int .i64 set, V.int .i64 more, V.ptr 0 1 0 0, V.int .i64 z]) (Int.toNat_of_nonneg hp8).symm, rfl⟩, ?_⟩
  rintro nM vs H ⟨k, hc1_0, hc1_1, rfl, rfl, rfl⟩
  refine ⟨fun h1 => ?_, fun h1 => ?_⟩
  ·replace h1 : (k : Int) < (hs.length : Int) := h1
   have hkl : k < hs.length := by omega
   obtain ⟨g0, g1⟩ := hp1 _ (gmem 0 hs k hkl)
   obtain ⟨w0, w1⟩ := pw12 g0 g1
   have a0 := hp3 _ (gmem 0 ag k (by omega))
   refine ⟨(i0 (k : Int) (hs.length : Int)), rfl, ⟨by show 0 ≤ (hs.getD k 0); first | omega | assumption, by show (hs.getD k 0) < 12; first | omega | assumption⟩, (i0 (k : Int) (ag.length : Int)), .inl ⟨⟨by show (0 : Int) ≤ (ag.getD k 0); omega, by show (0 : Int) ≤ ((2 : Int) ^ ((hs.getD k 0)).toNat); omega⟩, ?_⟩⟩
   refine ⟨fun h2 => ?_, fun h2 => ?_⟩
   ·replace h2 : ((((ag.getD k 0).toNat) &&& (((2 : Int) ^ ((hs.getD k 0)).toNat).toNat) : Nat) : Int) = ((2 : Int) ^ ((hs.getD k 0)).toNat) := h2
    have e13 : (((((ag.getD k 0).toNat) &&& set.toNat : Nat) : Int) = set) = fitK hs ag set k 0 := propext ⟨fun h => ⟨⟨h2, h⟩, fun j hj => absurd hj (by omega)⟩, fun h => h.1.2⟩
    refine ⟨(i0 (k : Int) (ag.length : Int)), .inl ⟨⟨by show (0 : Int) ≤ (ag.getD k 0); omega, by show (0 : Int) ≤ set; omega⟩, ?_⟩⟩
    refine ⟨1, [(1, .k), (2, .k), (3, .k), (5, .k), (11, .k), (12, .k), (13, .k), (14, .k)], fun nM vs H => ∃ (i : Nat), i ≤ hs.length ∧ nM = hs.length - i ∧ vs = [.sl false (.int .i64) ag, .int .i64 set, .int .i64 more, .ptr 0 1 0 0, .int .i64 (k : Int), .int .i64 ((2 : Int) ^ ((hs.getD k 0)).toNat), .b (fitK hs ag set k i), .int .i64 (i : Int)] ∧ H = [.cells [.sl false (.int .i64) hs, .int .i64 nd, .int .i64 wr, .int .i64 sz, .int .i64 st, .int .i64 ph]], ⟨rfl, hs.length, 0, by omega, by omega, by rw [← e13]; rfl, rfl⟩, ?_⟩
    rintro nM vs H ⟨i, hc2_0, rfl, rfl, rfl⟩
    refine ⟨fun h3 => ?_, fun h3 => ?_⟩
    ·replace h3 : (i : Int) < (hs.length : Int) := h3
     have hil : i < hs.length := by omega
     obtain ⟨u0, u1⟩ := hp1 _ (gmem 0 hs i hil)
     have b0 := hp3 _ (gmem 0 ag i (by omega))
     refine ⟨(i0 (i : Int) (hs.length : Int)), rfl, rfl, ⟨by show 0 ≤ set; first | omega | assumption, by show 0 ≤ (hs.getD i 0); first | omega | assumption, by show (hs.getD i 0) < 12; first | omega | assumption⟩, fun h4 => ?_, fun h4 => ?_⟩
     ·replace h4 : fitK hs ag set k i := h4
      refine ⟨fun h5 => ?_, fun h5 => ?_⟩
      ·replace h5 : ¬ (¬ ((set / 2 ^ ((hs.getD i 0)).toNat) % 2 = 1)) := h5
       refine ⟨(i0 (i : Int) (ag.length : Int)), .inl ⟨⟨by show (0 : Int) ≤ (ag.getD i 0); omega, by show (0 : Int) ≤ ((2 : Int) ^ ((hs.getD k 0)).toNat); omega⟩, ?_⟩⟩
       refine ⟨(r64 ((i : Int) + 1)), ?_⟩
       have e14 : fitK hs ag set k (i + 1) = (((((ag.getD i 0).toNat) &&& (((2 : Int) ^ ((hs.getD k 0)).toNat).toNat) : Nat) : Int) = ((2 : Int) ^ ((hs.getD k 0)).toNat)) := propext (by first | exact fk_in (by assumption) (Classical.not_not.1 (by assumption)) | exact fk_out (by assumption) (by assumption) | exact fk_no (by assumption) | exact fk_no2 (by assumption))
       exact ⟨rfl, hs.length - (i + 1), by omega, i + 1, by omega, rfl, by rw [e14]; rfl, rfl⟩
      ·replace h5 : ¬ ((set / 2 ^ ((hs.getD i 0)).toNat) % 2 = 1) := h5
       refine ⟨(r64 ((i : Int) + 1)), ?_⟩
       have e14 : fitK hs ag set k (i + 1) = (true = true) := propext (by first | exact fk_in (by assumption) (Classical.not_not.1 (by assumption)) | exact fk_out (by assumption) (by assumption) | exact fk_no (by assumption) | exact fk_no2 (by assumption))
       exact ⟨rfl, hs.length - (i + 1), by omega, i + 1, by omega, rfl, by rw [e14]; rfl, rfl⟩
     ·replace h4 : ¬ (fitK hs ag set k i) := h4
      refine ⟨(r64 ((i : Int) + 1)), ?_⟩
      have e14 : fitK hs ag set k (i + 1) = (false = true) := propext (by first | exact fk_in (by assumption) (Classical.not_not.1 (by assumption)) | exact fk_out (by assumption) (by assumption) | exact fk_no (by assumption) | exact fk_no2 (by assumption))
      exact ⟨rfl, hs.length - (i + 1), by omega, i + 1, by omega, rfl, by rw [e14]; rfl, rfl⟩
    ·replace h3 : ¬ ((i : Int) < (hs.length : Int)) := h3
     have hie : i = hs.length := by omega
     have hk1 : ((k : Int) + 1).toNat = k + 1 := by omega
     refine ⟨fun h6 => ?_, fun h6 => ?_⟩
     ·replace h6 : fitK hs ag set k i := h6
      rw [hie] at h6
      refine ⟨(r64 (set + ((2 : Int) ^ ((hs.getD k 0)).toNat))), (r64 (more - 1)), (r64 ((k : Int) + 1)), rfl, rfl, rfl, rfl, rfl, rfl, rfl, rfl, ⟨⟨by show hs.length ≤ 12; first | omega | assumption, by first | assumption | simp, by show ag.length = hs.length; first | omega | assumption, by first | assumption | simp, by show 0 ≤ (set + ((2 : Int) ^ ((hs.getD k 0)).toNat)); first | omega | assumption, by show (set + ((2 : Int) ^ ((hs.getD k 0)).toNat)) + 2048 * ((hs.length : Int) - ((k : Int) + 1)) ≤ 1000000; first | omega | assumption, by show 0 ≤ (more - 1); first | omega | assumption, by show (more - 1) ≤ 20; first | omega | assumption, by show 0 ≤ ((k : Int) + 1); first | omega | assumption, by show ((k : Int) + 1) ≤ (hs.length : Int); first | omega | assumption⟩, by show hs.length - Int.toNat ((k : Int) + 1) < hs.length - Int.toNat fr; omega⟩, fun h7 => ?_, fun h7 => ?_⟩
      ·replace h7 : 0 ≤ (clR hs ag (hs.length - Int.toNat ((k : Int) + 1)) (set + ((2 : Int) ^ ((hs.getD k 0)).toNat)) (more - 1)) := h7
       rw [hk1] at h7
       rw [hk1, clR_yes hkl h0 h6 h7, hc1_1]
       exact ⟨rfl, rfl, rfl, rfl⟩
      ·replace h7 : ¬ (0 ≤ (clR hs ag (hs.length - Int.toNat ((k : Int) + 1)) (set + ((2 : Int) ^ ((hs.getD k 0)).toNat)) (more - 1))) := h7
       rw [hk1] at h7
       have hsk := (clR_no hkl h0 h7).trans hc1_1
       refine ⟨(r64 ((k : Int) + 1)), ?_⟩
       exact ⟨rfl, hs.length - (k + 1), by omega, k + 1, ⟨by omega, by omega⟩, hsk, rfl, rfl, rfl⟩
     ·replace h6 : ¬ (fitK hs ag set k i) := h6
      rw [hie] at h6
      have hsk := (clR_not hkl h0 h6).trans hc1_1
      refine ⟨(r64 ((k : Int) + 1)), ?_⟩
      exact ⟨rfl, hs.length - (k + 1), by omega, k + 1, ⟨by omega, by omega⟩, hsk, rfl, rfl, rfl⟩
   ·replace h2 : ¬ (((((ag.getD k 0).toNat) &&& (((2 : Int) ^ ((hs.getD k 0)).toNat).toNat) : Nat) : Int) = ((2 : Int) ^ ((hs.getD k 0)).toNat)) := h2
    have e13 : (false = true) = fitK hs ag set k 0 := propext ⟨fun h => Bool.noConfusion h, fun h => absurd h.1.1 h2⟩
    refine ⟨1, [(1, .k), (2, .k), (3, .k), (5, .k), (11, .k), (12, .k), (13, .k), (14, .k)], fun nM vs H => ∃ (i : Nat), i ≤ hs.length ∧ nM = hs.length - i ∧ vs = [.sl false (.int .i64) ag, .int .i64 set, .int .i64 more, .ptr 0 1 0 0, .int .i64 (k : Int), .int .i64 ((2 : Int) ^ ((hs.getD k 0)).toNat), .b (fitK hs ag set k i), .int .i64 (i : Int)] ∧ H = [.cells [.sl false (.int .i64) hs, .int .i64 nd, .int .i64 wr, .int .i64 sz, .int .i64 st, .int .i64 ph]], ⟨rfl, hs.length, 0, by omega, by omega, by rw [← e13]; rfl, rfl⟩, ?_⟩
    rintro nM vs H ⟨i, hc3_0, rfl, rfl, rfl⟩
    refine ⟨fun h8 => ?_, fun h8 => ?_⟩
    ·replace h8 : (i : Int) < (hs.length : Int) := h8
     have hil : i < hs.length := by omega
     obtain ⟨u0, u1⟩ := hp1 _ (gmem 0 hs i hil)
     have b0 := hp3 _ (gmem 0 ag i (by omega))
     refine ⟨(i0 (i : Int) (hs.length : Int)), rfl, rfl, ⟨by show 0 ≤ set; first | omega | assumption, by show 0 ≤ (hs.getD i 0); first | omega | assumption, by show (hs.getD i 0) < 12; first | omega | assumption⟩, fun h9 => ?_, fun h9 => ?_⟩
     ·replace h9 : fitK hs ag set k i := h9
      refine ⟨fun h10 => ?_, fun h10 => ?_⟩
      ·replace h10 : ¬ (¬ ((set / 2 ^ ((hs.getD i 0)).toNat) % 2 = 1)) := h10
       refine ⟨(i0 (i : Int) (ag.length : Int)), .inl ⟨⟨by show (0 : Int) ≤ (ag.getD i 0); omega, by show (0 : Int) ≤ ((2 : Int) ^ ((hs.getD k 0)).toNat); omega⟩, ?_⟩⟩
       refine ⟨(r64 ((i : Int) + 1)), ?_⟩
       have e14 : fitK hs ag set k (i + 1) = (((((ag.getD i 0).toNat) &&& (((2 : Int) ^ ((hs.getD k 0)).toNat).toNat) : Nat) : Int) = ((2 : Int) ^ ((hs.getD k 0)).toNat)) := propext (by first | exact fk_in (by assumption) (Classical.not_not.1 (by assumption)) | exact fk_out (by assumption) (by assumption) | exact fk_no (by assumption) | exact fk_no2 (by assumption))
       exact ⟨rfl, hs.length - (i + 1), by omega, i + 1, by omega, rfl, by rw [e14]; rfl, rfl⟩
      ·replace h10 : ¬ ((set / 2 ^ ((hs.getD i 0)).toNat) % 2 = 1) := h10
       refine ⟨(r64 ((i : Int) + 1)), ?_⟩
       have e14 : fitK hs ag set k (i + 1) = (true = true) := propext (by first | exact fk_in (by assumption) (Classical.not_not.1 (by assumption)) | exact fk_out (by assumption) (by assumption) | exact fk_no (by assumption) | exact fk_no2 (by assumption))
       exact ⟨rfl, hs.length - (i + 1), by omega, i + 1, by omega, rfl, by rw [e14]; rfl, rfl⟩
     ·replace h9 : ¬ (fitK hs ag set k i) := h9
      refine ⟨(r64 ((i : Int) + 1)), ?_⟩
      have e14 : fitK hs ag set k (i + 1) = (false = true) := propext (by first | exact fk_in (by assumption) (Classical.not_not.1 (by assumption)) | exact fk_out (by assumption) (by assumption) | exact fk_no (by assumption) | exact fk_no2 (by assumption))
      exact ⟨rfl, hs.length - (i + 1), by omega, i + 1, by omega, rfl, by rw [e14]; rfl, rfl⟩
    ·replace h8 : ¬ ((i : Int) < (hs.length : Int)) := h8
     have hie : i = hs.length := by omega
     have hk1 : ((k : Int) + 1).toNat = k + 1 := by omega
     refine ⟨fun h11 => ?_, fun h11 => ?_⟩
     ·replace h11 : fitK hs ag set k i := h11
      rw [hie] at h11
      refine ⟨(r64 (set + ((2 : Int) ^ ((hs.getD k 0)).toNat))), (r64 (more - 1)), (r64 ((k : Int) + 1)), rfl, rfl, rfl, rfl, rfl, rfl, rfl, rfl, ⟨⟨by show hs.length ≤ 12; first | omega | assumption, by first | assumption | simp, by show ag.length = hs.length; first | omega | assumption, by first | assumption | simp, by show 0 ≤ (set + ((2 : Int) ^ ((hs.getD k 0)).toNat)); first | omega | assumption, by show (set + ((2 : Int) ^ ((hs.getD k 0)).toNat)) + 2048 * ((hs.length : Int) - ((k : Int) + 1)) ≤ 1000000; first | omega | assumption, by show 0 ≤ (more - 1); first | omega | assumption, by show (more - 1) ≤ 20; first | omega | assumption, by show 0 ≤ ((k : Int) + 1); first | omega | assumption, by show ((k : Int) + 1) ≤ (hs.length : Int); first | omega | assumption⟩, by show hs.length - Int.toNat ((k : Int) + 1) < hs.length - Int.toNat fr; omega⟩, fun h12 => ?_, fun h12 => ?_⟩
      ·replace h12 : 0 ≤ (clR hs ag (hs.length - Int.toNat ((k : Int) + 1)) (set + ((2 : Int) ^ ((hs.getD k 0)).toNat)) (more - 1)) := h12
       rw [hk1] at h12
       rw [hk1, clR_yes hkl h0 h11 h12, hc1_1]
       exact ⟨rfl, rfl, rfl, rfl⟩
      ·replace h12 : ¬ (0 ≤ (clR hs ag (hs.length - Int.toNat ((k : Int) + 1)) (set + ((2 : Int) ^ ((hs.getD k 0)).toNat)) (more - 1))) := h12
       rw [hk1] at h12
       have hsk := (clR_no hkl h0 h12).trans hc1_1
       refine ⟨(r64 ((k : Int) + 1)), ?_⟩
       exact ⟨rfl, hs.length - (k + 1), by omega, k + 1, ⟨by omega, by omega⟩, hsk, rfl, rfl, rfl⟩
     ·replace h11 : ¬ (fitK hs ag set k i) := h11
      rw [hie] at h11
      have hsk := (clR_not hkl h0 h11).trans hc1_1
      refine ⟨(r64 ((k : Int) + 1)), ?_⟩
      exact ⟨rfl, hs.length - (k + 1), by omega, k + 1, ⟨by omega, by omega⟩, hsk, rfl, rfl, rfl⟩
  ·replace h1 : ¬ ((k : Int) < (hs.length : Int)) := h1
   rw [← hc1_1, show hs.length - k = 0 by omega, clR, if_neg h0]
   exact ⟨rfl, rfl, rfl, rfl⟩
noncomputable def CClq : List (Nat × Con) := (22, pureC [.v (.cons (.sl (.int .i64)) (.cons (.int .i64) (.cons (.int .i64) (.cons (.int .i64) (.cons (.int .i64) (.cons (.int .i64) .nil)))))), .v (.sl (.int .i64)), .v (.int .i64), .v (.int .i64), .v (.int .i64)] sClq) :: CSets
theorem kClq : Known Tryd.prog (En CClq tys G6 []) := kSets.addRec Tryd.func22 Tryd.call22 [.k] mClq fun ds p v bs h hp => by
 unfold sClq at h
 split at h <;> simp only [Option.some.injEq, Prod.mk.injEq, reduceCtorEq] at h
 obtain ⟨rfl, rfl, rfl⟩ := h
 exact bClq _ _ _ _ _ _ _ _ _ _ hp.1 hp.2.1 hp.2.2.1 hp.2.2.2.1 hp.2.2.2.2.1 hp.2.2.2.2.2.1 hp.2.2.2.2.2.2.1 hp.2.2.2.2.2.2.2.1 hp.2.2.2.2.2.2.2.2.1 hp.2.2.2.2.2.2.2.2.2
end Go.Proofs.YtpfehhcljeagoaaDoor.S28c

namespace Go.Proofs.YtpfehhcljeagoaaDoor.S28c
open Go Go.Proofs.YtpfehhcljeagoaaDoor.Vc Go.Proofs Go.Proofs.YtpfehhcljeagoaaDoor.S28
set_option maxRecDepth 100000
/-- The reference's verdicts about the first dealers. -/
noncomputable def rv1 (hs : List Int) (wr : Int) (es : Ps) (k : Nat) : List (Int × Int × Unit) :=
 if 0 ≤ clR hs (ouL hs es (k : Int)) (hs.length - Int.toNat 0) 0 ((hs.length : Int) - wr) then [(hs.getD k 0, (clR hs (ouL hs es (k : Int)) (hs.length - Int.toNat 0) 0 ((hs.length : Int) - wr), ()))] else []
noncomputable def rvL (hs : List Int) (wr : Int) (es : Ps) : Nat → List (Int × Int × Unit)
 | 0 => []
 | k + 1 => rvL hs wr es k ++ rv1 hs wr es k
theorem rvL_len (hs : List Int) (wr : Int) (es : Ps) : ∀ k, (rvL hs wr es k).length ≤ k
 | 0 => by simp [rvL]
 | k + 1 => by
  have := rvL_len hs wr es k
  unfold rvL rv1
  split <;> simp <;> omega
noncomputable def rdL (hs : List Int) (nd wr sz st ph : Int) (l : List RP) : List (Int × Int × Unit) :=
 if tkE hs nd wr sz st ph = 0 then rvL hs wr (esL hs l) hs.length else []
theorem ouL_nn {hs : List Int} {es : Ps} (h : PsOk hs es) (d : Int) : ∀ x ∈ ouL hs es d, 0 ≤ x := fun x hx => by
 unfold ouL at hx
 obtain ⟨a, _, rfl⟩ := List.mem_map.1 hx
 cases hm : mget es a with
 | none => simp
 | some y =>
  show 0 ≤ y.getD d.toNat 0
  rcases Nat.lt_or_ge d.toNat y.length with hl | hl
  ·exact ((h _ (mget_mem hm)).2.2 _ (gmem 0 y d.toNat hl)).1
  ·rw [List.getD, List.getElem?_eq_none (by omega)]; simp
end Go.Proofs.YtpfehhcljeagoaaDoor.S28c

namespace Go.Proofs.YtpfehhcljeagoaaDoor.S28c
open Go Go.Proofs.YtpfehhcljeagoaaDoor.Vc Go.Proofs
set_option maxRecDepth 100000
set_option linter.unusedVariables false
open Go.Proofs.YtpfehhcljeagoaaDoor.S28
noncomputable def sRDe : List V → Option (Prop × V × List Blk)
 | [.agg [.sl false (.int .i64) hs, .int .i64 nd, .int .i64 wr, .int .i64 sz, .int .i64 st, .int .i64 ph], .sl false (.cons (.int .i64) (.cons (.sl (.int .i64)) .nil)) l] => some (hs.length ≤ 2000000 ∧ l.length ≤ 20 ∧ (∀ p ∈ l, p.2.1.length ≤ 1048576), .agg [.own (.cons (.int .i64) (.cons (.int .i64) .nil)) 0, .int .i64 (tkE hs nd wr sz st ph)], [.row true (.cons (.int .i64) (.cons (.int .i64) .nil)) (rdL hs nd wr sz st ph l)])
 | _ => none
set_option maxHeartbeats 2000000 in
theorem bRDe (hs : List Int) (nd : Int) (wr : Int) (sz : Int) (st : Int) (ph : Int) (l : List (Int × (List Int × Unit))) (hp0 : hs.length ≤ 2000000) (hp1 : l.length ≤ 20) (hp2 : (∀ p ∈ l, p.2.1.length ≤ 1048576)) : bodyP (En CClq tys G6 []) Tryd.f6 [.o (.cons (.int .i64) (.cons (.int .i64) .nil)), .k] [.agg [.sl false (.int .i64) hs, .int .i64 nd, .int .i64 wr, .int .i64 sz, .int .i64 st, .int .i64 ph], .sl false (.cons (.int .i64) (.cons (.sl (.int .i64)) .nil)) l] (.agg [.own (.cons (.int .i64) (.cons (.int .i64) .nil)) 0, .int .i64 (tkE hs nd wr sz st ph)]) [.row true (.cons (.int .i64) (.cons (.int .i64) .nil)) (rdL hs nd wr sz st ph l)] := by
 refine ⟨rfl, rfl, rfl, rfl, rfl, by show hs.length ≤ 2000000; first | omega | assumption, fun h0 => ?_, fun h0 => ?_⟩
 ·replace h0 : (tkE hs nd wr sz st ph) ≠ 0 := h0
  refine ⟨⟨rfl, rfl, rfl, Nat.le_of_ble_eq_true rfl⟩, ?_⟩
  rw [show rdL hs nd wr sz st ph l = [] from if_neg h0]
  exact ⟨rfl, rfl, rfl, rfl⟩
 ·replace h0 : ¬ ((tkE hs nd wr sz st ph) ≠ 0) := h0
  have hT := tk0 (Classical.not_not.1 h0)
  have hsb : ∀ h ∈ hs, 0 ≤ h ∧ h < 12 := hT.hs12
  have hn12 := hT.l12
  have hok := esL_ok hsb l [] (fun e he => by cases he)
  have ho := hT.ho
  have hq := hT.q1
  have r1 := hT.rg.1.1.1
  obtain ⟨r2, r3⟩ := hT.rg.1.2.1
  refine ⟨2, [(1, .k), (2, .k), (4, .k), (6, .o (.cons (.int .i64) (.cons (.int .i64) .nil))), (7, .k)], fun nM vs H => ∃ (k : Nat), k ≤ hs.length ∧ nM = hs.length - k ∧ vs = [.sl false (.cons (.int .i64) (.cons (.sl (.int .i64)) .nil)) l, .ptr 0 1 0 0, .ptr 1 1 0 0, .own (.cons (.int .i64) (.cons (.int .i64) .nil)) 2, .int .i64 (k : Int)] ∧ H = [.cells [.sl false (.int .i64) hs, .int .i64 nd, .int .i64 wr, .int .i64 sz, .int .i64 st, .int .i64 ph], .cells [.nils, .int .i64 0], .row true (.cons (.int .i64) (.cons (.int .i64) .nil)) (rvL hs wr (esL hs l) k)], ⟨rfl, hs.length, 0, by omega, by omega, rfl, rfl⟩, ?_⟩
  rintro nM vs H ⟨k, hc1_0, rfl, rfl, rfl⟩
  refine ⟨fun h1 => ?_, fun h1 => ?_⟩
  ·replace h1 : (k : Int) < (hs.length : Int) := h1
   have hkl : k < hs.length := by omega
   have hv := rvL_len hs wr (esL hs l) k
   have hol := ouL_len hs (esL hs l) (k : Int)
   have hnn := ouL_nn hok (k : Int)
   refine ⟨by kernel_rfl, rfl, rfl, rfl, rfl, rfl, rfl, ⟨by show hs.length ≤ 12; first | omega | assumption, by first | assumption | simp, by show l.length ≤ 20; first | omega | assumption, by first | assumption | simp, by show 0 ≤ (k : Int); first | omega | assumption, by show (k : Int) < (hs.length : Int); first | omega | assumption⟩, (r64 ((hs.length : Int) - wr)), rfl, rfl, rfl, rfl, rfl, rfl, rfl, rfl, ⟨by show hs.length ≤ 12; first | omega | assumption, by first | assumption | simp, by show (ouL hs (esL hs l) (k : Int)).length = hs.length; first | omega | assumption, by first | assumption | simp, by omega, by show 0 + 2048 * ((hs.length : Int) - 0) ≤ 1000000; first | omega | assumption, by show 0 ≤ ((hs.length : Int) - wr); first | omega | assumption, by show ((hs.length : Int) - wr) ≤ 20; first | omega | assumption, by omega, by show 0 ≤ (hs.length : Int); first | omega | assumption⟩, fun h2 => ?_, fun h2 => ?_⟩
   ·replace h2 : 0 ≤ (clR hs (ouL hs (esL hs l) (k : Int)) (hs.length - Int.toNat 0) 0 ((hs.length : Int) - wr)) := h2
    have hvd : rvL hs wr (esL hs l) (k + 1) = rvL hs wr (esL hs l) k ++ [(hs.getD k 0, ((clR hs (ouL hs (esL hs l) (k : Int)) (hs.length - Int.toNat 0) 0 ((hs.length : Int) - wr)), ()))] := by rw [rvL, rv1, if_pos h2]
    refine ⟨(i0 (k : Int) (hs.length : Int)), rfl, rfl, ⟨rfl, rfl⟩, by show (rvL hs wr (esL hs l) k).length + ([(hs.getD k 0, clR hs (ouL hs (esL hs l) (k : Int)) (hs.length - Int.toNat 0) 0 ((hs.length : Int) - wr), ())] : List (Int × (Int × Unit))).length ≤ 1000000000; simp only [List.length_cons, List.length_nil]; omega, (r64 ((k : Int) + 1)), ?_⟩
    exact ⟨rfl, hs.length - (k + 1), by omega, k + 1, by omega, rfl, rfl, by rw [hvd]; rfl⟩
   ·replace h2 : ¬ (0 ≤ (clR hs (ouL hs (esL hs l) (k : Int)) (hs.length - Int.toNat 0) 0 ((hs.length : Int) - wr))) := h2
    have hvd : rvL hs wr (esL hs l) (k + 1) = rvL hs wr (esL hs l) k := by rw [rvL, rv1, if_neg h2, List.append_nil]
    refine ⟨(r64 ((k : Int) + 1)), ?_⟩
    exact ⟨rfl, hs.length - (k + 1), by omega, k + 1, by omega, rfl, rfl, by rw [hvd]; rfl⟩
  ·replace h1 : ¬ ((k : Int) < (hs.length : Int)) := h1
   refine ⟨⟨rfl, rfl, rfl, Nat.le_of_ble_eq_true rfl⟩, ?_⟩
   rw [show rdL hs nd wr sz st ph l = rvL hs wr (esL hs l) k by rw [rdL, if_pos (Classical.not_not.1 h0), show k = hs.length by omega], Classical.not_not.1 h0]
   exact ⟨rfl, rfl, rfl, rfl⟩
noncomputable def CRDe : List (Nat × Con) := (6, pureC [.v (.cons (.sl (.int .i64)) (.cons (.int .i64) (.cons (.int .i64) (.cons (.int .i64) (.cons (.int .i64) (.cons (.int .i64) .nil)))))), .v (.sl (.cons (.int .i64) (.cons (.sl (.int .i64)) .nil)))] sRDe) :: CClq
theorem kRDe : Known Tryd.prog (En CRDe tys G6 []) := kClq.add Tryd.func6 Tryd.call6 [.o (.cons (.int .i64) (.cons (.int .i64) .nil)), .k] fun ds p v bs h hp => by
 unfold sRDe at h
 split at h <;> simp only [Option.some.injEq, Prod.mk.injEq, reduceCtorEq] at h
 obtain ⟨rfl, rfl, rfl⟩ := h
 exact bRDe _ _ _ _ _ _ _ hp.1 hp.2.1 hp.2.2
end Go.Proofs.YtpfehhcljeagoaaDoor.S28c

namespace Go.Proofs.YtpfehhcljeagoaaDoor.S28c
open Go Go.Proofs.YtpfehhcljeagoaaDoor.Vc Go.Proofs Go.Proofs.YtpfehhcljeagoaaDoor.S28
set_option maxRecDepth 100000
/-! ### both look for the same clique -/
theorem and_pow {a n : Nat} : a &&& 2 ^ n = 2 ^ n ↔ a.testBit n = true := by
 constructor
 ·intro h
  have h1 := congrArg (fun x => x.testBit n) h
  simp only [Nat.testBit_and, Nat.testBit_two_pow_self, Bool.and_true] at h1
  exact h1
 ·intro h
  apply Nat.eq_of_testBit_eq
  intro i
  rw [Nat.testBit_and, Nat.testBit_two_pow]
  by_cases e : n = i
  ·subst e; rw [h]; rfl
  ·rw [decide_eq_false e, Bool.and_false]
theorem and_or {a s t : Nat} : a &&& (s ||| t) = s ||| t ↔ a &&& s = s ∧ a &&& t = t := by
 constructor
 ·intro h
  have key : ∀ i, (a.testBit i && (s.testBit i || t.testBit i)) = (s.testBit i || t.testBit i) := fun i => by
   have := congrArg (fun x => x.testBit i) h
   simpa only [Nat.testBit_and, Nat.testBit_or] using this
  refine ⟨Nat.eq_of_testBit_eq fun i => ?_, Nat.eq_of_testBit_eq fun i => ?_⟩ <;> rw [Nat.testBit_and] <;> have := key i <;> revert this <;> cases a.testBit i <;> cases s.testBit i <;> cases t.testBit i <;> simp
 ·rintro ⟨h1, h2⟩
  rw [Nat.and_or_distrib_left, h1, h2]
theorem pow_nat (n : Nat) : ((2 : Int) ^ n).toNat = 2 ^ n := by
 rw [show (2 : Int) ^ n = ((2 ^ n : Nat) : Int) by rw [Int.natCast_pow]; rfl, Int.toNat_natCast]
theorem bit_mod {x : Int} (h : 0 ≤ x) (n : Nat) : (x / 2 ^ n) % 2 = 1 ↔ x.toNat.testBit n = true := by
 obtain ⟨m, rfl⟩ := Int.eq_ofNat_of_zero_le h
 rw [Int.toNat_natCast, Nat.testBit_eq_decide_div_mod_eq, decide_eq_true_eq, show (2 : Int) ^ n = ((2 ^ n : Nat) : Int) by rw [Int.natCast_pow]; rfl]
 omega
theorem bit_and1 {x : Int} (h : 0 ≤ x) (n : Nat) : ((x / 2 ^ n).toNat &&& 1) = (x.toNat.testBit n).toNat := by
 obtain ⟨m, rfl⟩ := Int.eq_ofNat_of_zero_le h
 have e : ((m : Int) / 2 ^ n).toNat = m / 2 ^ n := by
  rw [show (2 : Int) ^ n = ((2 ^ n : Nat) : Int) by rw [Int.natCast_pow]; rfl]
  rw [show (m : Int) / ((2 ^ n : Nat) : Int) = ((m / 2 ^ n : Nat) : Int) from rfl, Int.toNat_natCast]
 rw [e, Int.toNat_natCast, Nat.and_one_is_mod, Nat.testBit_eq_decide_div_mod_eq]
 have := Nat.mod_two_eq_zero_or_one (m / 2 ^ n)
 rcases this with h | h <;> rw [h] <;> rfl
/-- What is in the map is what is found. -/
def GetOk (es : Ps) : Prop := ∀ e ∈ es, mget es e.1 = some e.2
theorem mget_some {es : Ps} {e : Int × List Int} (h : e ∈ es) : mget es e.1 ≠ none := by
 induction es with
 | nil => cases h
 | cons a es ih =>
  obtain ⟨m, y⟩ := a
  unfold mget
  split
  ·simp
  ·rename_i hne
   rcases List.mem_cons.1 h with rfl | h
   ·exact absurd rfl hne
   ·exact ih h
theorem esL_get (hs : List Int) : ∀ (l : List RP) (es : Ps), GetOk es → GetOk (l.foldl (putP hs) es)
 | [], _, h => h
 | p :: l, es, h => by
  refine esL_get hs l _ fun e he => ?_
  unfold putP at he ⊢
  split at he
  ·rename_i hc
   rw [if_pos hc, mget_mput]
   rcases mput_mem he with he | rfl
   ·rw [if_neg fun hn => mget_some he (by rw [← hn]; exact hc.1)]
    exact h e he
   ·rw [if_pos rfl]
  ·rename_i hc
   rw [if_neg hc]
   exact h e he
theorem ou_at {hs : List Int} {es : Ps} {k : Int} {j : Nat} (h : j < hs.length) : (ouL hs es k).getD j 0 = ((mget es (hs.getD j 0)).getD []).getD k.toNat 0 := by
 rw [gD (by rw [ouL_len]; exact h)]
 unfold ouL
 rw [List.getElem_map, gD h]
theorem own_eq {a : Int} (n : Nat) : (((a.toNat &&& ((2 : Int) ^ n).toNat : Nat) : Int) = 2 ^ n) ↔ a.toNat.testBit n = true := by
 rw [pow_nat, ← and_pow, show (2 : Int) ^ n = ((2 ^ n : Nat) : Int) by rw [Int.natCast_pow]; rfl]
 exact Int.ofNat_inj
theorem set_eq {a s : Int} (h : 0 ≤ s) : (((a.toNat &&& s.toNat : Nat) : Int) = s) ↔ a.toNat &&& s.toNat = s.toNat := by
 constructor <;> intro h <;> omega
theorem nxt_eq {a s h : Int} : (((a.toNat &&& (nxt s h).toNat : Nat) : Int) = nxt s h) ↔ a.toNat.testBit h.toNat = true ∧ a.toNat &&& s.toNat = s.toNat := by
 have e : nxt s h = ((s.toNat ||| 2 ^ h.toNat : Nat) : Int) := by unfold nxt; rw [Int.one_mul, pow_nat]
 rw [e, Int.toNat_natCast, ← and_pow, and_comm, ← and_or]
 exact Int.ofNat_inj
/-- All houses of a set have posted. -/
def SetOk (hs : List Int) (es : Ps) (set : Int) : Prop := ∀ n, set.toNat.testBit n = true → ∃ j, j < hs.length ∧ (hs.getD j 0).toNat = n ∧ (mget es (hs.getD j 0)).isSome = true
theorem fits_iff {hs : List Int} {es : Ps} {k set : Int} {i : Nat} (hb : ∀ x ∈ hs, 0 ≤ x ∧ x < 12) (hes : PsOk hs es) (hg : GetOk es) (hi : i < hs.length) (s0 : 0 ≤ set) (hp : SetOk hs es set) :
  fits es k set (hs.getD i 0) ↔ fitK hs (ouL hs es k) set i hs.length := by
 unfold fits fitK
 rw [ou_at hi, own_eq, set_eq s0]
 have kv : ∀ {e : Int × List Int}, e ∈ es → 0 ≤ e.2.getD k.toNat 0 := fun {e} he => by
  rcases Nat.lt_or_ge k.toNat e.2.length with hl | hl
  ·exact ((hes e he).2.2 _ (gmem 0 _ _ hl)).1
  ·rw [List.getD, List.getElem?_eq_none (by omega)]; simp
 constructor
 ·rintro ⟨ag, h1, h2, h3⟩
  rw [nxt_eq] at h2
  rw [h1]
  refine ⟨h2, fun j hj hin => ?_⟩
  rw [bit_mod s0] at hin
  obtain ⟨j', hj', e1, e2⟩ := hp _ hin
  have ej : hs.getD j' 0 = hs.getD j 0 := by
   have := hb _ (gmem 0 hs j' hj'); have := hb _ (gmem 0 hs j hj); omega
  rw [ej] at e2
  rw [ou_at hj, own_eq]
  cases hm : mget es (hs.getD j 0) with
  | none => rw [hm] at e2; simp at e2
  | some y =>
   have hmem := mget_mem hm
   refine Classical.byContradiction fun hn => h3 _ hmem ⟨?_, ?_⟩
   ·rw [bit_and1 s0, hin]; rfl
   ·rw [bit_and1 (kv hmem)]
    have : (y.getD k.toNat 0).toNat.testBit (hs.getD i 0).toNat = false := by simpa using hn
    show (((y.getD k.toNat 0).toNat.testBit (hs.getD i 0).toNat).toNat : Int) = 0
    rw [this]; rfl
 ·rintro ⟨⟨h1, h2⟩, h3⟩
  cases hm : mget es (hs.getD i 0) with
  | none => rw [hm] at h1; simp at h1
  | some y =>
   rw [hm] at h1 h2
   refine ⟨y, rfl, nxt_eq.2 ⟨h1, h2⟩, fun e he hbad => ?_⟩
   obtain ⟨b1, b2⟩ := hbad
   rw [bit_and1 s0] at b1
   rw [bit_and1 (kv he)] at b2
   have c1 : set.toNat.testBit e.1.toNat = true := by
    cases hc : set.toNat.testBit e.1.toNat with
    | true => rfl
    | false => rw [hc] at b1; simp at b1
   obtain ⟨j, hj, e1, _⟩ := hp _ c1
   have ej : hs.getD j 0 = e.1 := by
    have := hb _ (gmem 0 hs j hj); have := (hes e he).1; omega
   have h4 := h3 j hj (by rw [bit_mod s0, ej]; exact c1)
   rw [ou_at hj, own_eq, ej, hg e he] at h4
   have h5 : (e.2.getD k.toNat 0).toNat.testBit (hs.getD i 0).toNat = true := h4
   rw [h5] at b2
   simp at b2
end Go.Proofs.YtpfehhcljeagoaaDoor.S28c

namespace Go.Proofs.YtpfehhcljeagoaaDoor.S28c
open Go Go.Proofs.YtpfehhcljeagoaaDoor.Vc Go.Proofs Go.Proofs.YtpfehhcljeagoaaDoor.S28
set_option maxRecDepth 100000
theorem sorted_lt {hs : List Int} (hh : hsF (-1) hs = true) {a b : Nat} (hab : a < b) (hb : b < hs.length) : hs.getD a 0 < hs.getD b 0 := by
 refine (sorted_take hs (-1) b hh hb).2 _ ?_
 rw [gD (show a < hs.length by omega)]
 exact List.mem_take_iff_getElem.2 ⟨a, by omega, rfl⟩
theorem pow_le {x y : Int} (hx : 0 ≤ x) (hxy : x ≤ y) : (2 : Int) ^ x.toNat ≤ 2 ^ y.toNat := by
 have h1 := Nat.pow_le_pow_right (n := 2) (by omega) (show x.toNat ≤ y.toNat by omega)
 have h2 : ((2 ^ x.toNat : Nat) : Int) ≤ ((2 ^ y.toNat : Nat) : Int) := Int.ofNat_le.2 h1
 rw [Int.natCast_pow, Int.natCast_pow] at h2
 exact h2
theorem cl_eq {hs : List Int} {es : Ps} {k : Int} (hh : hsF (-1) hs = true) (hb : ∀ x ∈ hs, 0 ≤ x ∧ x < 12) (hes : PsOk hs es) (hg : GetOk es) :
  ∀ (m i : Nat) (set more : Int), hs.length - i = m → i ≤ hs.length → 0 ≤ set → (∀ j, i ≤ j → j < hs.length → set < 2 ^ (hs.getD j 0).toNat) → SetOk hs es set →
   cl es k (hs.drop i) set more = clR hs (ouL hs es k) (hs.length - i) set more
 | 0, i, set, more, hm, hi, s0, sl, hp => by
  rw [List.drop_eq_nil_of_le (by omega), hm, cl, clR]
 | m + 1, i, set, more, hm, hi, s0, sl, hp => by
  have hil : i < hs.length := by omega
  by_cases h0 : more = 0
  ·subst h0; rw [cl_zero, clR_zero]
  have ih := cl_eq (k := k) hh hb hes hg m (i + 1) set more (by omega) (by omega) s0 (fun j h1 h2 => sl j (by omega) h2) hp
  have hf := fits_iff (k := k) hb hes hg hil s0 hp
  obtain ⟨g0, g1⟩ := hb _ (gmem 0 hs i hil)
  have e := nxt_sum s0 g0 (sl i (Nat.le_refl _) hil)
  rw [drop_at hs i hil, cl, if_neg h0, clR_at hil h0]
  by_cases hfi : fits es k set (hs.getD i 0)
  ·rw [if_pos hfi, if_pos (hf.1 hfi)]
   have pp : (0 : Int) < 2 ^ (hs.getD i 0).toNat := Int.pow_pos (by omega)
   have ih2 := cl_eq (k := k) hh hb hes hg m (i + 1) (nxt set (hs.getD i 0)) (more - 1) (by omega) (by omega) (by omega) (fun j h1 h2 => by
    have h3 := sorted_lt hh (show i < j by omega) h2
    have h4 := pow_le (show 0 ≤ hs.getD i 0 + 1 by omega) (show hs.getD i 0 + 1 ≤ hs.getD j 0 by omega)
    have h5 : (2 : Int) ^ (hs.getD i 0 + 1).toNat = 2 * 2 ^ (hs.getD i 0).toNat := by rw [show (hs.getD i 0 + 1).toNat = (hs.getD i 0).toNat + 1 by omega, Int.pow_succ, Int.mul_comm]
    have h6 := sl i (Nat.le_refl _) hil
    omega) (fun n hn => by
    have e2 : (nxt set (hs.getD i 0)).toNat = set.toNat ||| 2 ^ (hs.getD i 0).toNat := by unfold nxt; rw [Int.one_mul, pow_nat, Int.toNat_natCast]
    rw [e2, Nat.testBit_or, Nat.testBit_two_pow, Bool.or_eq_true, decide_eq_true_eq] at hn
    rcases hn with hn | hn
    ·exact hp n hn
    ·obtain ⟨ag, h1, _⟩ := hfi
     exact ⟨i, hil, hn, by rw [h1]; rfl⟩)
   rw [ih2, ih, e]
  ·rw [if_neg hfi, if_neg fun h => hfi (hf.2 h), ih]
theorem vd_eq {hs : List Int} {wr : Int} {es : Ps} (hh : hsF (-1) hs = true) (hb : ∀ x ∈ hs, 0 ≤ x ∧ x < 12) (hes : PsOk hs es) (hg : GetOk es) : ∀ k, vdL hs wr es k = rvL hs wr es k
 | 0 => rfl
 | k + 1 => by
  have e := cl_eq (k := (k : Int)) hh hb hes hg (hs.length - 0) 0 0 ((hs.length : Int) - wr) rfl (by omega) (by omega) (fun j _ _ => Int.pow_pos (by omega)) (fun n hn => by simp at hn)
  have e : cl es (k : Int) (hs.drop 0) 0 ((hs.length : Int) - wr) = clR hs (ouL hs es (k : Int)) (hs.length - Int.toNat 0) 0 ((hs.length : Int) - wr) := e
  rw [vdL, rvL, vd_eq hh hb hes hg k, vd1, rv1, e]
/-- Both decide alike. -/
theorem dec_eq (hs : List Int) (nd wr sz st ph : Int) (l : List RP) : decL hs nd wr sz st ph l = rdL hs nd wr sz st ph l := by
 unfold decL rdL
 split
 ·rename_i h
  have hT := tk0 h
  exact vd_eq hT.ho hT.hs12 (esL_ok hT.hs12 l [] fun e he => by cases he) (esL_get hs l [] fun e he => by cases he) _
 ·rfl
end Go.Proofs.YtpfehhcljeagoaaDoor.S28c

namespace Go.Proofs.YtpfehhcljeagoaaDoor.S28c
open Go Go.Proofs.YtpfehhcljeagoaaDoor.Vc Go.Proofs Go.Proofs.YtpfehhcljeagoaaDoor.S28
set_option maxRecDepth 100000
theorem take_next {α : Type} {d : α} {a b : List α} {k : Nat} (ha : k < a.length) (hb : k < b.length) (h : a.take k = b.take k) (he : a.getD k d = b.getD k d) : a.take (k + 1) = b.take (k + 1) := by
 rw [List.take_succ_eq_append_getElem ha, List.take_succ_eq_append_getElem hb, h, ← gD (d := d) ha, ← gD (d := d) hb, he]
theorem take_done {α : Type} {a b : List α} {k : Nat} (hl : a.length = b.length) (hk : a.length ≤ k) (h : a.take k = b.take k) : a = b := by
 rw [List.take_of_length_le hk, List.take_of_length_le (by omega)] at h; exact h
theorem ixP_isG {α : Type} (p : α → Bool) {q : α → Prop} (l : List α) (h : ∀ i, p i = true ↔ q i) : 0 ≤ ixP p l 0 ↔ ∃ i ∈ l, q i := by
 constructor
 ·intro g
  refine Classical.byContradiction fun hn => ?_
  have := (ixP_none (p := p) (l := l) (k := 0)).2 fun a ha => by
   cases hp : p a with
   | false => rfl
   | true => exact absurd ⟨a, ha, (h a).1 hp⟩ hn
  omega
 ·rintro ⟨i, hi, hq⟩
  refine Classical.byContradiction fun hn => ?_
  have := (ixP_none (p := p) (l := l) (k := 0)).1 (by omega) i hi
  rw [(h i).2 hq] at this; cases this
end Go.Proofs.YtpfehhcljeagoaaDoor.S28c

namespace Go.Proofs.YtpfehhcljeagoaaDoor.S28c
open Go Go.Proofs.YtpfehhcljeagoaaDoor.Vc Go.Proofs
set_option maxRecDepth 100000
set_option linter.unusedVariables false
open Go.Proofs.YtpfehhcljeagoaaDoor.S28
noncomputable def sSTx : List V → Option (Prop × V × List Blk)
 | [.sl false .str a, .sl false .str b] => some (a.length ≤ 1048576 ∧ b.length ≤ 1048576, .b (a = b), [])
 | _ => none
set_option maxHeartbeats 1000000 in
theorem bSTx (a : List (List UInt8)) (b : List (List UInt8)) (hp0 : a.length ≤ 1048576) (hp1 : b.length ≤ 1048576) : bodyP (En CRDe tys G6 []) Tryd.f12 [.k] [.sl false .str a, .sl false .str b] (.b (a = b)) [] := by
 refine ⟨fun h0 => ?_, fun h0 => ?_⟩
 ·replace h0 : (a.length : Int) ≠ (b.length : Int) := h0
  exact ⟨rfl, rfl, congrArg V.b (propext ⟨fun h => Bool.noConfusion h, fun h => False.elim (h0 (by rw [h]))⟩), rfl⟩
 ·replace h0 : ¬ ((a.length : Int) ≠ (b.length : Int)) := h0
  refine ⟨0, [(0, .k), (1, .k), (5, .k)], fun nM vs H => ∃ (k : Nat), k ≤ a.length ∧ a.take k = b.take k ∧ nM = a.length - k ∧ vs = [.sl false .str a, .sl false .str b, .int .i64 (k : Int)] ∧ H = [], ⟨rfl, a.length, 0, by omega, rfl, by omega, rfl, rfl⟩, ?_⟩
  rintro nM vs H ⟨k, hc1_0, hc1_1, rfl, rfl, rfl⟩
  refine ⟨fun h1 => ?_, fun h1 => ?_⟩
  ·replace h1 : (k : Int) < (a.length : Int) := h1
   refine ⟨by kernel_rfl, (i0 (k : Int) (a.length : Int)), (i0 (k : Int) (b.length : Int)), fun h2 => ?_, fun h2 => ?_⟩
   ·replace h2 : (a.getD k []) ≠ (b.getD k []) := h2
    exact ⟨rfl, rfl, congrArg V.b (propext ⟨fun h => Bool.noConfusion h, fun h => False.elim (h2 (by rw [h]))⟩), rfl⟩
   ·replace h2 : ¬ ((a.getD k []) ≠ (b.getD k [])) := h2
    have hnx := take_next (d := []) (show k < a.length by omega) (show k < b.length by omega) hc1_1 (Classical.not_not.1 h2)
    refine ⟨(r64 ((k : Int) + 1)), ?_⟩
    exact ⟨rfl, a.length - (k + 1), by omega, k + 1, by omega, hnx, rfl, rfl, rfl⟩
  ·replace h1 : ¬ ((k : Int) < (a.length : Int)) := h1
   exact ⟨rfl, rfl, congrArg V.b (propext ⟨fun _ => take_done (by omega) (by omega) hc1_1, fun _ => rfl⟩), rfl⟩
noncomputable def CSTx : List (Nat × Con) := (12, pureC [.v (.sl .str), .v (.sl .str)] sSTx) :: CRDe
theorem kSTx : Known Tryd.prog (En CSTx tys G6 []) := kRDe.add Tryd.func12 Tryd.call12 [.k] fun ds p v bs h hp => by
 unfold sSTx at h
 split at h <;> simp only [Option.some.injEq, Prod.mk.injEq, reduceCtorEq] at h
 obtain ⟨rfl, rfl, rfl⟩ := h
 exact bSTx _ _ hp.1 hp.2
noncomputable def sSMl : List V → Option (Prop × V × List Blk)
 | [.sl false (.cons (.int .i64) (.cons (.int .i64) (.cons (.int .i64) (.cons (.int .i64) (.cons (.sl .str) .nil))))) a, .sl false (.cons (.int .i64) (.cons (.int .i64) (.cons (.int .i64) (.cons (.int .i64) (.cons (.sl .str) .nil))))) b] => some (a.length ≤ 1048576 ∧ b.length ≤ 1048576 ∧ (∀ m ∈ a, m.2.2.2.2.1.length ≤ 1048576) ∧ (∀ m ∈ b, m.2.2.2.2.1.length ≤ 1048576), .b (a = b), [])
 | _ => none
set_option maxHeartbeats 1000000 in
theorem bSMl (a : List (Int × (Int × (Int × (Int × (List (List UInt8) × Unit)))))) (b : List (Int × (Int × (Int × (Int × (List (List UInt8) × Unit)))))) (hp0 : a.length ≤ 1048576) (hp1 : b.length ≤ 1048576) (hp2 : (∀ m ∈ a, m.2.2.2.2.1.length ≤ 1048576)) (hp3 : (∀ m ∈ b, m.2.2.2.2.1.length ≤ 1048576)) : bodyP (En CSTx tys G6 []) Tryd.f9 [.k] [.sl false (.cons (.int .i64) (.cons (.int .i64) (.cons (.int .i64) (.cons (.int .i64) (.cons (.sl .str) .nil))))) a, .sl false (.cons (.int .i64) (.cons (.int .i64) (.cons (.int .i64) (.cons (.int .i64) (.cons (.sl .str) .nil))))) b] (.b (a = b)) [] := by
 refine ⟨fun h0 => ?_, fun h0 => ?_⟩
 ·replace h0 : (a.length : Int) ≠ (b.length : Int) := h0
  exact ⟨rfl, rfl, congrArg V.b (propext ⟨fun h => Bool.noConfusion h, fun h => False.elim (h0 (by rw [h]))⟩), rfl⟩
 ·replace h0 : ¬ ((a.length : Int) ≠ (b.length : Int)) := h0
  refine ⟨0, [(0, .k), (1, .k), (5, .k)], fun nM vs H => ∃ (k : Nat), k ≤ a.length ∧ a.take k = b.take k ∧ nM = a.length - k ∧ vs = [.sl false (.cons (.int .i64) (.cons (.int .i64) (.cons (.int .i64) (.cons (.int .i64) (.cons (.sl .str) .nil))))) a, .sl false (.cons (.int .i64) (.cons (.int .i64) (.cons (.int .i64) (.cons (.int .i64) (.cons (.sl .str) .nil))))) b, .int .i64 (k : Int)] ∧ H = [], ⟨rfl, a.length, 0, by omega, rfl, by omega, rfl, rfl⟩, ?_⟩
  rintro nM vs H ⟨k, hc1_0, hc1_1, rfl, rfl, rfl⟩
  refine ⟨fun h1 => ?_, fun h1 => ?_⟩
  ·replace h1 : (k : Int) < (a.length : Int) := h1
   have hka : k < a.length := by omega
   have hkb : k < b.length := by omega
   have la := hp2 _ (gmem (0, (0, (0, (0, ([], ()))))) a k hka)
   have lb := hp3 _ (gmem (0, (0, (0, (0, ([], ()))))) b k hkb)
   refine ⟨by kernel_rfl, (i0 (k : Int) (a.length : Int)), (i0 (k : Int) (b.length : Int)), ⟨by show ((((((a.getD k (0, (0, (0, (0, ([], ())))))).2).2).2).2).1).length ≤ 1048576; first | omega | assumption | (simp only [List.length_cons, List.length_nil, List.length_append, List.length_take, List.length_drop, List.length_set, List.length_replicate]; omega), by show ((((((b.getD k (0, (0, (0, (0, ([], ())))))).2).2).2).2).1).length ≤ 1048576; first | omega | assumption | (simp only [List.length_cons, List.length_nil, List.length_append, List.length_take, List.length_drop, List.length_set, List.length_replicate]; omega)⟩, by kernel_rfl, fun h2 => ?_, fun h2 => ?_⟩
   ·replace h2 : ¬ (¬ (((((((a.getD k (0, (0, (0, (0, ([], ())))))).2).2).2).2).1) = ((((((b.getD k (0, (0, (0, (0, ([], ())))))).2).2).2).2).1))) := h2
    refine ⟨fun h3 => ?_, fun h3 => absurd h3 (show ¬ (¬ (((((((a.getD k (0, (0, (0, (0, ([], ())))))).2).2).2).2).1) = ((((((b.getD k (0, (0, (0, (0, ([], ())))))).2).2).2).2).1))) by first | omega | assumption | simp_all)⟩
    refine ⟨fun h4 => ?_, fun h4 => absurd h4 (show ¬ (¬ (((((((a.getD k (0, (0, (0, (0, ([], ())))))).2).2).2).2).1) = ((((((b.getD k (0, (0, (0, (0, ([], ())))))).2).2).2).2).1))) by first | omega | assumption | simp_all)⟩
    refine ⟨(i0 (k : Int) (a.length : Int)), fun h5 => ?_, fun h5 => absurd h5 (show ¬ (¬ (((((((a.getD k (0, (0, (0, (0, ([], ())))))).2).2).2).2).1) = ((((((b.getD k (0, (0, (0, (0, ([], ())))))).2).2).2).2).1))) by first | omega | assumption | simp_all)⟩
    refine ⟨fun h6 => ?_, fun h6 => absurd h6 (show ¬ (¬ (((((((a.getD k (0, (0, (0, (0, ([], ())))))).2).2).2).2).1) = ((((((b.getD k (0, (0, (0, (0, ([], ())))))).2).2).2).2).1))) by first | omega | assumption | simp_all)⟩
    refine ⟨fun h7 => ?_, fun h7 => absurd h7 (show ¬ (¬ (((((((a.getD k (0, (0, (0, (0, ([], ())))))).2).2).2).2).1) = ((((((b.getD k (0, (0, (0, (0, ([], ())))))).2).2).2).2).1))) by first | omega | assumption | simp_all)⟩
    refine ⟨fun h8 => ?_, fun h8 => absurd h8 (show ¬ (¬ (((((((a.getD k (0, (0, (0, (0, ([], ())))))).2).2).2).2).1) = ((((((b.getD k (0, (0, (0, (0, ([], ())))))).2).2).2).2).1))) by first | omega | assumption | simp_all)⟩
    refine ⟨fun h9 => ?_, fun h9 => absurd h9 (show ¬ (¬ (((((((a.getD k (0, (0, (0, (0, ([], ())))))).2).2).2).2).1) = ((((((b.getD k (0, (0, (0, (0, ([], ())))))).2).2).2).2).1))) by first | omega | assumption | simp_all)⟩
    refine ⟨(i0 (k : Int) (b.length : Int)), fun h10 => ?_, fun h10 => absurd h10 (show ¬ (¬ (((((((a.getD k (0, (0, (0, (0, ([], ())))))).2).2).2).2).1) = ((((((b.getD k (0, (0, (0, (0, ([], ())))))).2).2).2).2).1))) by first | omega | assumption | simp_all)⟩
    refine ⟨fun h11 => ?_, fun h11 => absurd h11 (show ¬ (¬ (((((((a.getD k (0, (0, (0, (0, ([], ())))))).2).2).2).2).1) = ((((((b.getD k (0, (0, (0, (0, ([], ())))))).2).2).2).2).1))) by first | omega | assumption | simp_all)⟩
    refine ⟨fun h12 => ?_, fun h12 => absurd h12 (show ¬ (¬ (((((((a.getD k (0, (0, (0, (0, ([], ())))))).2).2).2).2).1) = ((((((b.getD k (0, (0, (0, (0, ([], ())))))).2).2).2).2).1))) by first | omega | assumption | simp_all)⟩
    refine ⟨fun h13 => absurd h13 (show ¬ (¬ (((((((a.getD k (0, (0, (0, (0, ([], ())))))).2).2).2).2).1) = ((((((b.getD k (0, (0, (0, (0, ([], ())))))).2).2).2).2).1))) by first | omega | assumption | simp_all), fun h13 => ?_⟩
    refine ⟨fun h14 => ?_, fun h14 => ?_⟩
    ·replace h14 : ¬ (((a.getD k (0, (0, (0, (0, ([], ())))))).1) ≠ ((b.getD k (0, (0, (0, (0, ([], ())))))).1)) := h14
     refine ⟨fun h15 => ?_, fun h15 => absurd h15 (show ¬ (((a.getD k (0, (0, (0, (0, ([], ())))))).1) ≠ ((b.getD k (0, (0, (0, (0, ([], ())))))).1)) by first | omega | assumption | simp_all)⟩
     refine ⟨fun h16 => ?_, fun h16 => absurd h16 (show ¬ (((a.getD k (0, (0, (0, (0, ([], ())))))).1) ≠ ((b.getD k (0, (0, (0, (0, ([], ())))))).1)) by first | omega | assumption | simp_all)⟩
     refine ⟨(i0 (k : Int) (a.length : Int)), fun h17 => ?_, fun h17 => absurd h17 (show ¬ (((a.getD k (0, (0, (0, (0, ([], ())))))).1) ≠ ((b.getD k (0, (0, (0, (0, ([], ())))))).1)) by first | omega | assumption | simp_all)⟩
     refine ⟨fun h18 => ?_, fun h18 => absurd h18 (show ¬ (((a.getD k (0, (0, (0, (0, ([], ())))))).1) ≠ ((b.getD k (0, (0, (0, (0, ([], ())))))).1)) by first | omega | assumption | simp_all)⟩
     refine ⟨fun h19 => ?_, fun h19 => absurd h19 (show ¬ (((a.getD k (0, (0, (0, (0, ([], ())))))).1) ≠ ((b.getD k (0, (0, (0, (0, ([], ())))))).1)) by first | omega | assumption | simp_all)⟩
     refine ⟨fun h20 => ?_, fun h20 => absurd h20 (show ¬ (((a.getD k (0, (0, (0, (0, ([], ())))))).1) ≠ ((b.getD k (0, (0, (0, (0, ([], ())))))).1)) by first | omega | assumption | simp_all)⟩
     refine ⟨fun h21 => ?_, fun h21 => absurd h21 (show ¬ (((a.getD k (0, (0, (0, (0, ([], ())))))).1) ≠ ((b.getD k (0, (0, (0, (0, ([], ())))))).1)) by first | omega | assumption | simp_all)⟩
     refine ⟨(i0 (k : Int) (b.length : Int)), fun h22 => ?_, fun h22 => absurd h22 (show ¬ (((a.getD k (0, (0, (0, (0, ([], ())))))).1) ≠ ((b.getD k (0, (0, (0, (0, ([], ())))))).1)) by first | omega | assumption | simp_all)⟩
     refine ⟨fun h23 => ?_, fun h23 => absurd h23 (show ¬ (((a.getD k (0, (0, (0, (0, ([], ())))))).1) ≠ ((b.getD k (0, (0, (0, (0, ([], ())))))).1)) by first | omega | assumption | simp_all)⟩
     refine ⟨fun h24 => ?_, fun h24 => absurd h24 (show ¬ (((a.getD k (0, (0, (0, (0, ([], ())))))).1) ≠ ((b.getD k (0, (0, (0, (0, ([], ())))))).1)) by first | omega | assumption | simp_all)⟩
     refine ⟨fun h25 => absurd h25 (show ¬ (((a.getD k (0, (0, (0, (0, ([], ())))))).1) ≠ ((b.getD k (0, (0, (0, (0, ([], ())))))).1)) by first | omega | assumption | simp_all), fun h25 => ?_⟩
     refine ⟨fun h26 => ?_, fun h26 => ?_⟩
     ·replace h26 : ¬ ((((a.getD k (0, (0, (0, (0, ([], ())))))).2).1) ≠ (((b.getD k (0, (0, (0, (0, ([], ())))))).2).1)) := h26
      refine ⟨fun h27 => ?_, fun h27 => absurd h27 (show ¬ ((((a.getD k (0, (0, (0, (0, ([], ())))))).2).1) ≠ (((b.getD k (0, (0, (0, (0, ([], ())))))).2).1)) by first | omega | assumption | simp_all)⟩
      refine ⟨fun h28 => ?_, fun h28 => absurd h28 (show ¬ ((((a.getD k (0, (0, (0, (0, ([], ())))))).2).1) ≠ (((b.getD k (0, (0, (0, (0, ([], ())))))).2).1)) by first | omega | assumption | simp_all)⟩
      refine ⟨(i0 (k : Int) (a.length : Int)), fun h29 => ?_, fun h29 => absurd h29 (show ¬ ((((a.getD k (0, (0, (0, (0, ([], ())))))).2).1) ≠ (((b.getD k (0, (0, (0, (0, ([], ())))))).2).1)) by first | omega | assumption | simp_all)⟩
      refine ⟨fun h30 => ?_, fun h30 => absurd h30 (show ¬ ((((a.getD k (0, (0, (0, (0, ([], ())))))).2).1) ≠ (((b.getD k (0, (0, (0, (0, ([], ())))))).2).1)) by first | omega | assumption | simp_all)⟩
      refine ⟨fun h31 => ?_, fun h31 => absurd h31 (show ¬ ((((a.getD k (0, (0, (0, (0, ([], ())))))).2).1) ≠ (((b.getD k (0, (0, (0, (0, ([], ())))))).2).1)) by first | omega | assumption | simp_all)⟩
      refine ⟨fun h32 => ?_, fun h32 => absurd h32 (show ¬ ((((a.getD k (0, (0, (0, (0, ([], ())))))).2).1) ≠ (((b.getD k (0, (0, (0, (0, ([], ())))))).2).1)) by first | omega | assumption | simp_all)⟩
      refine ⟨fun h33 => ?_, fun h33 => absurd h33 (show ¬ ((((a.getD k (0, (0, (0, (0, ([], ())))))).2).1) ≠ (((b.getD k (0, (0, (0, (0, ([], ())))))).2).1)) by first | omega | assumption | simp_all)⟩
      refine ⟨(i0 (k : Int) (b.length : Int)), fun h34 => ?_, fun h34 => absurd h34 (show ¬ ((((a.getD k (0, (0, (0, (0, ([], ())))))).2).1) ≠ (((b.getD k (0, (0, (0, (0, ([], ())))))).2).1)) by first | omega | assumption | simp_all)⟩
      refine ⟨fun h35 => ?_, fun h35 => absurd h35 (show ¬ ((((a.getD k (0, (0, (0, (0, ([], ())))))).2).1) ≠ (((b.getD k (0, (0, (0, (0, ([], ())))))).2).1)) by first | omega | assumption | simp_all)⟩
      refine ⟨fun h36 => ?_, fun h36 => absurd h36 (show ¬ ((((a.getD k (0, (0, (0, (0, ([], ())))))).2).1) ≠ (((b.getD k (0, (0, (0, (0, ([], ())))))).2).1)) by first | omega | assumption | simp_all)⟩
      refine ⟨fun h37 => absurd h37 (show ¬ ((((a.getD k (0, (0, (0, (0, ([], ())))))).2).1) ≠ (((b.getD k (0, (0, (0, (0, ([], ())))))).2).1)) by first | omega | assumption | simp_all), fun h37 => ?_⟩
      refine ⟨fun h38 => ?_, fun h38 => ?_⟩
      ·replace h38 : ¬ (((((a.getD k (0, (0, (0, (0, ([], ())))))).2).2).1) ≠ ((((b.getD k (0, (0, (0, (0, ([], ())))))).2).2).1)) := h38
       refine ⟨fun h39 => ?_, fun h39 => absurd h39 (show ¬ (((((a.getD k (0, (0, (0, (0, ([], ())))))).2).2).1) ≠ ((((b.getD k (0, (0, (0, (0, ([], ())))))).2).2).1)) by first | omega | assumption | simp_all)⟩
       refine ⟨fun h40 => ?_, fun h40 => absurd h40 (show ¬ (((((a.getD k (0, (0, (0, (0, ([], ())))))).2).2).1) ≠ ((((b.getD k (0, (0, (0, (0, ([], ())))))).2).2).1)) by first | omega | assumption | simp_all)⟩
       refine ⟨(i0 (k : Int) (a.length : Int)), fun h41 => ?_, fun h41 => absurd h41 (show ¬ (((((a.getD k (0, (0, (0, (0, ([], ())))))).2).2).1) ≠ ((((b.getD k (0, (0, (0, (0, ([], ())))))).2).2).1)) by first | omega | assumption | simp_all)⟩
       refine ⟨fun h42 => ?_, fun h42 => absurd h42 (show ¬ (((((a.getD k (0, (0, (0, (0, ([], ())))))).2).2).1) ≠ ((((b.getD k (0, (0, (0, (0, ([], ())))))).2).2).1)) by first | omega | assumption | simp_all)⟩
       refine ⟨fun h43 => ?_, fun h43 => absurd h43 (show ¬ (((((a.getD k (0, (0, (0, (0, ([], ())))))).2).2).1) ≠ ((((b.getD k (0, (0, (0, (0, ([], ())))))).2).2).1)) by first | omega | assumption | simp_all)⟩
       refine ⟨fun h44 => ?_, fun h44 => absurd h44 (show ¬ (((((a.getD k (0, (0, (0, (0, ([], ())))))).2).2).1) ≠ ((((b.getD k (0, (0, (0, (0, ([], ())))))).2).2).1)) by first | omega | assumption | simp_all)⟩
       refine ⟨fun h45 => ?_, fun h45 => absurd h45 (show ¬ (((((a.getD k (0, (0, (0, (0, ([], ())))))).2).2).1) ≠ ((((b.getD k (0, (0, (0, (0, ([], ())))))).2).2).1)) by first | omega | assumption | simp_all)⟩
       refine ⟨(i0 (k : Int) (b.length : Int)), fun h46 => ?_, fun h46 => absurd h46 (show ¬ (((((a.getD k (0, (0, (0, (0, ([], ())))))).2).2).1) ≠ ((((b.getD k (0, (0, (0, (0, ([], ())))))).2).2).1)) by first | omega | assumption | simp_all)⟩
       refine ⟨fun h47 => ?_, fun h47 => absurd h47 (show ¬ (((((a.getD k (0, (0, (0, (0, ([], ())))))).2).2).1) ≠ ((((b.getD k (0, (0, (0, (0, ([], ())))))).2).2).1)) by first | omega | assumption | simp_all)⟩
       refine ⟨fun h48 => ?_, fun h48 => absurd h48 (show ¬ (((((a.getD k (0, (0, (0, (0, ([], ())))))).2).2).1) ≠ ((((b.getD k (0, (0, (0, (0, ([], ())))))).2).2).1)) by first | omega | assumption | simp_all)⟩
       refine ⟨fun h49 => absurd h49 (show ¬ (((((a.getD k (0, (0, (0, (0, ([], ())))))).2).2).1) ≠ ((((b.getD k (0, (0, (0, (0, ([], ())))))).2).2).1)) by first | omega | assumption | simp_all), fun h49 => ?_⟩
       refine ⟨fun h50 => ?_, fun h50 => ?_⟩
       ·replace h50 : (((((a.getD k (0, (0, (0, (0, ([], ())))))).2).2).2).1) ≠ (((((b.getD k (0, (0, (0, (0, ([], ())))))).2).2).2).1) := h50
        exact ⟨rfl, rfl, congrArg V.b (propext ⟨fun h => Bool.noConfusion h, fun h => False.elim (h50 (by rw [h]))⟩), rfl⟩
       ·replace h50 : ¬ ((((((a.getD k (0, (0, (0, (0, ([], ())))))).2).2).2).1) ≠ (((((b.getD k (0, (0, (0, (0, ([], ())))))).2).2).2).1)) := h50
        have hnx := take_next (d := (0, (0, (0, (0, ([], ())))))) hka hkb hc1_1 (Prod.ext (Classical.not_not.1 h14) (Prod.ext (Classical.not_not.1 h26) (Prod.ext (Classical.not_not.1 h38) (Prod.ext (Classical.not_not.1 h50) (Prod.ext (Classical.not_not.1 h2) rfl)))))
        refine ⟨(r64 ((k : Int) + 1)), ?_⟩
        exact ⟨rfl, a.length - (k + 1), by omega, k + 1, by omega, hnx, rfl, rfl, rfl⟩
      ·replace h38 : ((((a.getD k (0, (0, (0, (0, ([], ())))))).2).2).1) ≠ ((((b.getD k (0, (0, (0, (0, ([], ())))))).2).2).1) := h38
       refine ⟨fun h51 => absurd (show ((((a.getD k (0, (0, (0, (0, ([], ())))))).2).2).1) ≠ ((((b.getD k (0, (0, (0, (0, ([], ())))))).2).2).1) by first | omega | assumption | simp_all) h51, fun h51 => ?_⟩
       refine ⟨fun h52 => absurd (show ((((a.getD k (0, (0, (0, (0, ([], ())))))).2).2).1) ≠ ((((b.getD k (0, (0, (0, (0, ([], ())))))).2).2).1) by first | omega | assumption | simp_all) h52, fun h52 => ?_⟩
       refine ⟨fun h53 => absurd (show ((((a.getD k (0, (0, (0, (0, ([], ())))))).2).2).1) ≠ ((((b.getD k (0, (0, (0, (0, ([], ())))))).2).2).1) by first | omega | assumption | simp_all) h53, fun h53 => ?_⟩
       refine ⟨fun h54 => absurd (show ((((a.getD k (0, (0, (0, (0, ([], ())))))).2).2).1) ≠ ((((b.getD k (0, (0, (0, (0, ([], ())))))).2).2).1) by first | omega | assumption | simp_all) h54, fun h54 => ?_⟩
       refine ⟨fun h55 => absurd (show ((((a.getD k (0, (0, (0, (0, ([], ())))))).2).2).1) ≠ ((((b.getD k (0, (0, (0, (0, ([], ())))))).2).2).1) by first | omega | assumption | simp_all) h55, fun h55 => ?_⟩
       refine ⟨fun h56 => absurd (show ((((a.getD k (0, (0, (0, (0, ([], ())))))).2).2).1) ≠ ((((b.getD k (0, (0, (0, (0, ([], ())))))).2).2).1) by first | omega | assumption | simp_all) h56, fun h56 => ?_⟩
       refine ⟨fun h57 => absurd (show ((((a.getD k (0, (0, (0, (0, ([], ())))))).2).2).1) ≠ ((((b.getD k (0, (0, (0, (0, ([], ())))))).2).2).1) by first | omega | assumption | simp_all) h57, fun h57 => ?_⟩
       refine ⟨fun h58 => absurd (show ((((a.getD k (0, (0, (0, (0, ([], ())))))).2).2).1) ≠ ((((b.getD k (0, (0, (0, (0, ([], ())))))).2).2).1) by first | omega | assumption | simp_all) h58, fun h58 => ?_⟩
       refine ⟨fun h59 => absurd (show ((((a.getD k (0, (0, (0, (0, ([], ())))))).2).2).1) ≠ ((((b.getD k (0, (0, (0, (0, ([], ())))))).2).2).1) by first | omega | assumption | simp_all) h59, fun h59 => ?_⟩
       refine ⟨fun h60 => absurd (show ((((a.getD k (0, (0, (0, (0, ([], ())))))).2).2).1) ≠ ((((b.getD k (0, (0, (0, (0, ([], ())))))).2).2).1) by first | omega | assumption | simp_all) h60, fun h60 => ?_⟩
       refine ⟨fun h61 => ?_, fun h61 => absurd (show ((((a.getD k (0, (0, (0, (0, ([], ())))))).2).2).1) ≠ ((((b.getD k (0, (0, (0, (0, ([], ())))))).2).2).1) by first | omega | assumption | simp_all) h61⟩
       exact ⟨rfl, rfl, congrArg V.b (propext ⟨fun h => Bool.noConfusion h, fun h => False.elim (h38 (by rw [h]))⟩), rfl⟩
     ·replace h26 : (((a.getD k (0, (0, (0, (0, ([], ())))))).2).1) ≠ (((b.getD k (0, (0, (0, (0, ([], ())))))).2).1) := h26
      refine ⟨fun h62 => absurd (show (((a.getD k (0, (0, (0, (0, ([], ())))))).2).1) ≠ (((b.getD k (0, (0, (0, (0, ([], ())))))).2).1) by first | omega | assumption | simp_all) h62, fun h62 => ?_⟩
      refine ⟨fun h63 => absurd (show (((a.getD k (0, (0, (0, (0, ([], ())))))).2).1) ≠ (((b.getD k (0, (0, (0, (0, ([], ())))))).2).1) by first | omega | assumption | simp_all) h63, fun h63 => ?_⟩
      refine ⟨fun h64 => absurd (show (((a.getD k (0, (0, (0, (0, ([], ())))))).2).1) ≠ (((b.getD k (0, (0, (0, (0, ([], ())))))).2).1) by first | omega | assumption | simp_all) h64, fun h64 => ?_⟩
      refine ⟨fun h65 => absurd (show (((a.getD k (0, (0, (0, (0, ([], ())))))).2).1) ≠ (((b.getD k (0, (0, (0, (0, ([], ())))))).2).1) by first | omega | assumption | simp_all) h65, fun h65 => ?_⟩
      refine ⟨fun h66 => absurd (show (((a.getD k (0, (0, (0, (0, ([], ())))))).2).1) ≠ (((b.getD k (0, (0, (0, (0, ([], ())))))).2).1) by first | omega | assumption | simp_all) h66, fun h66 => ?_⟩
      refine ⟨fun h67 => absurd (show (((a.getD k (0, (0, (0, (0, ([], ())))))).2).1) ≠ (((b.getD k (0, (0, (0, (0, ([], ())))))).2).1) by first | omega | assumption | simp_all) h67, fun h67 => ?_⟩
      refine ⟨fun h68 => absurd (show (((a.getD k (0, (0, (0, (0, ([], ())))))).2).1) ≠ (((b.getD k (0, (0, (0, (0, ([], ())))))).2).1) by first | omega | assumption | simp_all) h68, fun h68 => ?_⟩
      refine ⟨fun h69 => absurd (show (((a.getD k (0, (0, (0, (0, ([], ())))))).2).1) ≠ (((b.getD k (0, (0, (0, (0, ([], ())))))).2).1) by first | omega | assumption | simp_all) h69, fun h69 => ?_⟩
      refine ⟨fun h70 => absurd (show (((a.getD k (0, (0, (0, (0, ([], ())))))).2).1) ≠ (((b.getD k (0, (0, (0, (0, ([], ())))))).2).1) by first | omega | assumption | simp_all) h70, fun h70 => ?_⟩
      refine ⟨fun h71 => absurd (show (((a.getD k (0, (0, (0, (0, ([], ())))))).2).1) ≠ (((b.getD k (0, (0, (0, (0, ([], ())))))).2).1) by first | omega | assumption | simp_all) h71, fun h71 => ?_⟩
      refine ⟨fun h72 => ?_, fun h72 => absurd (show (((a.getD k (0, (0, (0, (0, ([], ())))))).2).1) ≠ (((b.getD k (0, (0, (0, (0, ([], ())))))).2).1) by first | omega | assumption | simp_all) h72⟩
      exact ⟨rfl, rfl, congrArg V.b (propext ⟨fun h => Bool.noConfusion h, fun h => False.elim (h26 (by rw [h]))⟩), rfl⟩
    ·replace h14 : ((a.getD k (0, (0, (0, (0, ([], ())))))).1) ≠ ((b.getD k (0, (0, (0, (0, ([], ())))))).1) := h14
     refine ⟨fun h73 => absurd (show ((a.getD k (0, (0, (0, (0, ([], ())))))).1) ≠ ((b.getD k (0, (0, (0, (0, ([], ())))))).1) by first | omega | assumption | simp_all) h73, fun h73 => ?_⟩
     refine ⟨fun h74 => absurd (show ((a.getD k (0, (0, (0, (0, ([], ())))))).1) ≠ ((b.getD k (0, (0, (0, (0, ([], ())))))).1) by first | omega | assumption | simp_all) h74, fun h74 => ?_⟩
     refine ⟨fun h75 => absurd (show ((a.getD k (0, (0, (0, (0, ([], ())))))).1) ≠ ((b.getD k (0, (0, (0, (0, ([], ())))))).1) by first | omega | assumption | simp_all) h75, fun h75 => ?_⟩
     refine ⟨fun h76 => absurd (show ((a.getD k (0, (0, (0, (0, ([], ())))))).1) ≠ ((b.getD k (0, (0, (0, (0, ([], ())))))).1) by first | omega | assumption | simp_all) h76, fun h76 => ?_⟩
     refine ⟨fun h77 => absurd (show ((a.getD k (0, (0, (0, (0, ([], ())))))).1) ≠ ((b.getD k (0, (0, (0, (0, ([], ())))))).1) by first | omega | assumption | simp_all) h77, fun h77 => ?_⟩
     refine ⟨fun h78 => absurd (show ((a.getD k (0, (0, (0, (0, ([], ())))))).1) ≠ ((b.getD k (0, (0, (0, (0, ([], ())))))).1) by first | omega | assumption | simp_all) h78, fun h78 => ?_⟩
     refine ⟨fun h79 => absurd (show ((a.getD k (0, (0, (0, (0, ([], ())))))).1) ≠ ((b.getD k (0, (0, (0, (0, ([], ())))))).1) by first | omega | assumption | simp_all) h79, fun h79 => ?_⟩
     refine ⟨fun h80 => absurd (show ((a.getD k (0, (0, (0, (0, ([], ())))))).1) ≠ ((b.getD k (0, (0, (0, (0, ([], ())))))).1) by first | omega | assumption | simp_all) h80, fun h80 => ?_⟩
     refine ⟨fun h81 => absurd (show ((a.getD k (0, (0, (0, (0, ([], ())))))).1) ≠ ((b.getD k (0, (0, (0, (0, ([], ())))))).1) by first | omega | assumption | simp_all) h81, fun h81 => ?_⟩
     refine ⟨fun h82 => absurd (show ((a.getD k (0, (0, (0, (0, ([], ())))))).1) ≠ ((b.getD k (0, (0, (0, (0, ([], ())))))).1) by first | omega | assumption | simp_all) h82, fun h82 => ?_⟩
     refine ⟨fun h83 => ?_, fun h83 => absurd (show ((a.getD k (0, (0, (0, (0, ([], ())))))).1) ≠ ((b.getD k (0, (0, (0, (0, ([], ())))))).1) by first | omega | assumption | simp_all) h83⟩
     exact ⟨rfl, rfl, congrArg V.b (propext ⟨fun h => Bool.noConfusion h, fun h => False.elim (h14 (by rw [h]))⟩), rfl⟩
   ·replace h2 : ¬ (((((((a.getD k (0, (0, (0, (0, ([], ())))))).2).2).2).2).1) = ((((((b.getD k (0, (0, (0, (0, ([], ())))))).2).2).2).2).1)) := h2
    refine ⟨fun h84 => absurd (show ¬ (((((((a.getD k (0, (0, (0, (0, ([], ())))))).2).2).2).2).1) = ((((((b.getD k (0, (0, (0, (0, ([], ())))))).2).2).2).2).1)) by first | omega | assumption | simp_all) h84, fun h84 => ?_⟩
    refine ⟨fun h85 => absurd (show ¬ (((((((a.getD k (0, (0, (0, (0, ([], ())))))).2).2).2).2).1) = ((((((b.getD k (0, (0, (0, (0, ([], ())))))).2).2).2).2).1)) by first | omega | assumption | simp_all) h85, fun h85 => ?_⟩
    refine ⟨fun h86 => absurd (show ¬ (((((((a.getD k (0, (0, (0, (0, ([], ())))))).2).2).2).2).1) = ((((((b.getD k (0, (0, (0, (0, ([], ())))))).2).2).2).2).1)) by first | omega | assumption | simp_all) h86, fun h86 => ?_⟩
    refine ⟨fun h87 => absurd (show ¬ (((((((a.getD k (0, (0, (0, (0, ([], ())))))).2).2).2).2).1) = ((((((b.getD k (0, (0, (0, (0, ([], ())))))).2).2).2).2).1)) by first | omega | assumption | simp_all) h87, fun h87 => ?_⟩
    refine ⟨fun h88 => absurd (show ¬ (((((((a.getD k (0, (0, (0, (0, ([], ())))))).2).2).2).2).1) = ((((((b.getD k (0, (0, (0, (0, ([], ())))))).2).2).2).2).1)) by first | omega | assumption | simp_all) h88, fun h88 => ?_⟩
    refine ⟨fun h89 => absurd (show ¬ (((((((a.getD k (0, (0, (0, (0, ([], ())))))).2).2).2).2).1) = ((((((b.getD k (0, (0, (0, (0, ([], ())))))).2).2).2).2).1)) by first | omega | assumption | simp_all) h89, fun h89 => ?_⟩
    refine ⟨fun h90 => absurd (show ¬ (((((((a.getD k (0, (0, (0, (0, ([], ())))))).2).2).2).2).1) = ((((((b.getD k (0, (0, (0, (0, ([], ())))))).2).2).2).2).1)) by first | omega | assumption | simp_all) h90, fun h90 => ?_⟩
    refine ⟨fun h91 => absurd (show ¬ (((((((a.getD k (0, (0, (0, (0, ([], ())))))).2).2).2).2).1) = ((((((b.getD k (0, (0, (0, (0, ([], ())))))).2).2).2).2).1)) by first | omega | assumption | simp_all) h91, fun h91 => ?_⟩
    refine ⟨fun h92 => absurd (show ¬ (((((((a.getD k (0, (0, (0, (0, ([], ())))))).2).2).2).2).1) = ((((((b.getD k (0, (0, (0, (0, ([], ())))))).2).2).2).2).1)) by first | omega | assumption | simp_all) h92, fun h92 => ?_⟩
    refine ⟨fun h93 => absurd (show ¬ (((((((a.getD k (0, (0, (0, (0, ([], ())))))).2).2).2).2).1) = ((((((b.getD k (0, (0, (0, (0, ([], ())))))).2).2).2).2).1)) by first | omega | assumption | simp_all) h93, fun h93 => ?_⟩
    refine ⟨fun h94 => ?_, fun h94 => absurd (show ¬ (((((((a.getD k (0, (0, (0, (0, ([], ())))))).2).2).2).2).1) = ((((((b.getD k (0, (0, (0, (0, ([], ())))))).2).2).2).2).1)) by first | omega | assumption | simp_all) h94⟩
    exact ⟨rfl, rfl, congrArg V.b (propext ⟨fun h => Bool.noConfusion h, fun h => False.elim (h2 (by rw [h]))⟩), rfl⟩
  ·replace h1 : ¬ ((k : Int) < (a.length : Int)) := h1
   exact ⟨rfl, rfl, congrArg V.b (propext ⟨fun _ => take_done (by omega) (by omega) hc1_1, fun _ => rfl⟩), rfl⟩
noncomputable def CSMl : List (Nat × Con) := (9, pureC [.v (.sl (.cons (.int .i64) (.cons (.int .i64) (.cons (.int .i64) (.cons (.int .i64) (.cons (.sl .str) .nil)))))), .v (.sl (.cons (.int .i64) (.cons (.int .i64) (.cons (.int .i64) (.cons (.int .i64) (.cons (.sl .str) .nil))))))] sSMl) :: CSTx
theorem kSMl : Known Tryd.prog (En CSMl tys G6 []) := kSTx.add Tryd.func9 Tryd.call9 [.k] fun ds p v bs h hp => by
 unfold sSMl at h
 split at h <;> simp only [Option.some.injEq, Prod.mk.injEq, reduceCtorEq] at h
 obtain ⟨rfl, rfl, rfl⟩ := h
 exact bSMl _ _ hp.1 hp.2.1 hp.2.2.1 hp.2.2.2
end Go.Proofs.YtpfehhcljeagoaaDoor.S28c

/- Texts of this claim: S27.D2, S27.CdRenewKeepsSecret. -/
import Derived.Test.YtmkphnlpbngenaaDoorS4
set_option linter.unusedVariables false
set_option linter.unusedSimpArgs false
namespace Go.Proofs.YtmkphnlpbngenaaDoor.S27
open Go Go.Proofs.YtmkphnlpbngenaaDoor.Vc Go.Proofs
set_option maxRecDepth 100000
set_option linter.unusedVariables false

def sLKeep : List V → Option (Prop × V × List Blk)
  | [.int .i64 nd, .sl false (.cons (.int .i64) (.cons (.sl (.sl .str)) .nil)) ds, .sl false (.sl .u8) l] => some (ds.length ≤ 1048576 ∧ (∀ d ∈ ds, d.2.1.length ≤ 1048576 ∧ ∀ l ∈ d.2.1, l.length ≤ 1048576 ∧ ∀ x ∈ l, x.length ≤ 1048576) ∧ l.length ≤ 1048576 ∧ (∀ x ∈ l, x.length ≤ 1048576), .b True, [])
  | _ => none
set_option maxHeartbeats 4000000 in
theorem bLKeep (nd : Int) (ds : List (Int × (List (List (List UInt8)) × Unit))) (l : List (List UInt8)) (hp0 : ds.length ≤ 1048576) (hp1 : (∀ d ∈ ds, d.2.1.length ≤ 1048576 ∧ ∀ l ∈ d.2.1, l.length ≤ 1048576 ∧ ∀ x ∈ l, x.length ≤ 1048576)) (hp2 : l.length ≤ 1048576) (hp3 : (∀ x ∈ l, x.length ≤ 1048576)) : bodyP (En CSan tys G6 QPrs) Tryd.f7 [.k] [.int .i64 nd, .sl false (.cons (.int .i64) (.cons (.sl (.sl .str)) .nil)) ds, .sl false (.sl .u8) l] (.b True) [] := by
  refine ⟨trivial, fun h0 => ?_, fun h0 => absurd h0 (show ¬ (¬ True) by simp)⟩
  refine ⟨rfl, ⟨by show ds.length ≤ 1048576; first | omega | assumption, hp1, by show l.length ≤ 1048576; first | omega | assumption, hp3⟩, fun h1 => ?_, fun h1 => ?_⟩
  · replace h1 : ¬ (fitP nd ds l) := h1
    exact ⟨rfl, rfl, rfl, rfl⟩
  · replace h1 : ¬ (¬ (fitP nd ds l)) := h1
    have hF := fit_ok (Classical.not_not.1 h1)
    have hk := keeps hF
    refine ⟨0, [(0, .k), (1, .k), (2, .k), (8, .o .u8), (9, .k)], fun n vs H => ∃ (k : Nat), k ≤ l.length ∧ n = l.length - k ∧ vs = [.int .i64 nd, .sl false (.cons (.int .i64) (.cons (.sl (.sl .str)) .nil)) ds, .sl false (.sl .u8) l, .own .u8 0, .int .i64 (k : Int)] ∧ H = [.row true .u8 ((l.take k).map (horner 0))], ⟨rfl, l.length, 0, by omega, by omega, rfl, rfl⟩, ?_⟩
    rintro n vs H ⟨k, hc1_0, rfl, rfl, rfl⟩
    have hml := mapT_len (horner 0) l k (by omega)
    refine ⟨fun h2 => ?_, fun h2 => ?_⟩
    · replace h2 : (k : Int) < (l.length : Int) := h2
      have hkl : k < l.length := by omega
      refine ⟨⟨by show (0 : Int) ≤ (k : Int); omega, by show (k : Int) < (l.length : Int); omega⟩, by show (l.getD k []).length ≤ 1000000; have := hF.pl _ (getD_mem [] l k (by omega)); have := hF.n12; omega, ⟨rfl, rfl⟩, by show ((l.take k).map (horner 0)).length + ([horner 0 (l.getD k [])] : List UInt8).length ≤ 1000000000; simp only [List.length_cons, List.length_nil]; omega, ⟨by show (-9223372036854775808 : Int) ≤ ((k : Int) + 1); omega, by show ((k : Int) + 1) ≤ (9223372036854775807 : Int); omega⟩, ?_⟩
      exact ⟨rfl, l.length - (k + 1), by omega, k + 1, by omega, rfl, rfl, by rw [map_take_snoc [] _ l k hkl]; rfl⟩
    · replace h2 : ¬ ((k : Int) < (l.length : Int)) := h2
      have hkt : l.take k = l := List.take_of_length_le (by omega)
      have hrl : (rnK (shK l 12) ds (shK l 12).length).length = 12 := by rw [rnK_len, shK_len]
      refine ⟨⟨by show l.length ≤ 1048576; first | omega | assumption, fun x hx => by have := hF.pl x hx; have := hF.n12; omega⟩, ⟨⟨_, fit_rn hF rfl⟩, hp1⟩, fun h3 => ?_, fun h3 => absurd h3 (show ¬ (¬ True) by simp)⟩
      refine ⟨fun h4 => ?_, fun h4 => ?_⟩
      · replace h4 : (((rnK (shK l 12) ds (shK l 12).length).length : Nat) : Int) ≠ 12 := h4
        omega
      · replace h4 : ¬ ((((rnK (shK l 12) ds (shK l 12).length).length : Nat) : Int) ≠ 12) := h4
        refine ⟨rfl, by show SecOk (rnK (shK l 12) ds (shK l 12).length) nd; rw [shK_len]; exact hk.1, fun h5 => ?_, fun h5 => absurd (show True by simp) h5⟩
        exact ⟨rfl, rfl, congrArg V.b (propext ⟨fun _ => trivial, fun _ => by show secK (rnK (shK l 12) ds (shK l 12).length) nd (sN (rnK (shK l 12) ds (shK l 12).length)) = (l.take k).map (horner 0); rw [shK_len, hkt]; exact hk.2⟩), rfl⟩
end Go.Proofs.YtmkphnlpbngenaaDoor.S27

namespace Go.Proofs.YtmkphnlpbngenaaDoor
open Go Go.Proofs.YtmkphnlpbngenaaDoor.Vc Go.Proofs Go.Proofs.YtmkphnlpbngenaaDoor.S27 Go.ChangeShapes Go.WideShapes Go.ChangeAt Go.RowKit
set_option maxRecDepth 100000
set_option linter.unusedVariables false
namespace Cd.renewKeepsSecret
open Go.Proofs.YtmkphnlpbngenaaDoor.Cd
theorem deep0 : Deep Tryd.prog (.int .i64) (.inl 3) := Tryd.underlying3
theorem rec0 : Tryd.prog.readableRec 3 = true := by kernel_rfl
theorem lt0 : 3 < Tryd.prog.types.size := of_decide_eq_true (by kernel_rfl)
theorem deep1 : Deep Tryd.prog (.sl (.cons (.int .i64) (.cons (.sl (.sl .str)) .nil))) (.inl 79) := ⟨24, Tryd.underlying79, by kernel_rfl, by decide, ⟨_, _, _, Tryd.underlying24, rfl, by kernel_rfl, by kernel_rfl, by kernel_rfl, Tryd.underlying3, ⟨by kernel_rfl, by kernel_rfl, ⟨34, Tryd.underlying22, by kernel_rfl, by decide, ⟨9, Tryd.underlying34, by kernel_rfl, by decide, Tryd.underlying9⟩⟩, trivial⟩⟩⟩
theorem rec1 : Tryd.prog.readableRec 79 = true := by kernel_rfl
theorem lt1 : 79 < Tryd.prog.types.size := of_decide_eq_true (by kernel_rfl)
theorem deep2 : Deep Tryd.prog (.sl (.sl .u8)) (.inl 80) := ⟨82, Tryd.underlying80, by kernel_rfl, by decide, ⟨5, Tryd.underlying82, by kernel_rfl, by decide, Tryd.underlying5⟩⟩
theorem rec2 : Tryd.prog.readableRec 80 = true := by kernel_rfl
theorem lt2 : 80 < Tryd.prog.types.size := of_decide_eq_true (by kernel_rfl)
theorem globs {W : World} (h : laidMetH Tryd.prog Rows.renewKeepsSecretUptoRow.laid W) : ∀ g x, lk G6 g = some x → VRel (c0 W) [] W x (.pointer (some ⟨g, 0, none⟩)) := fun g x hx => by
  have hg : Tryd.prog.globalNamed "quietus/gf.high" = some 0 := by kernel_rfl
  have ht : Lib.TabIs Tryd.prog W "quietus/gf.high" .u8 [0, 29, 58, 39, 116, 105, 78, 83, 232, 245, 210, 207, 156, 129, 166, 187] := Lib.tabIs_of_head (rest := []) hg (by kernel_rfl) Tryd.underlying129 Tryd.underlying5 (by kernel_rfl) (by kernel_rfl) h
  have key : ∀ i, i < 16 → ([0, 29, 58, 39, 116, 105, 78, 83, 232, 245, 210, 207, 156, 129, 166, 187] : List Int).getD i 0 = ((hi.getD i 0).toNat : Int) := by decide
  have hc : ∀ i, i < hi.length → W.cell? ⟨0, i, none⟩ = some (.int .u8 ((hi.getD i 0).toNat : Int)) := fun i hi' => by
    have := ht.cell hg i hi'
    rwa [key i hi'] at this
  unfold G6 lk at hx
  cases hb : Nat.beq 0 g with
  | false => rw [hb] at hx; simp [lk] at hx
  | true =>
    rw [hb] at hx
    simp only [cond_true, Option.some.injEq] at hx
    have := beq_ok hb
    subst this hx
    exact tab_ok (spot_none (hc 0 (by decide))).2 hc rfl
theorem contract (H : Type) (enc : TypeId × Value → H) (W : World) (base : Nat) (args : Array Value) (ds gs : List (DataW H)) (before : List MemPlace)
    (hval : ∀ (j : Nat) t v, Tryd.f7.params[j]? = some t → args[j]? = some v → Value.okWide Tryd.prog W .any base t v)
    (hW : DataW.Whole enc Tryd.prog Tryd.f7.params.toList Rows.renewKeepsSecretSpec.vars false W args.toList ds gs before) (hc : Rows.uptoSmall H (ds ++ gs) = true) (hL : laidMetH Tryd.prog Rows.renewKeepsSecretUptoRow.laid W) :
    Calls Tryd.prog 7 args W fun e W' => ∃ v, e = .returned v ∧ Rows.renewKeepsSecretSpec.post enc Tryd.prog Tryd.f7 false true false false W args v W' := by
  have hW' := hW
  obtain ⟨p, q, hA0, hV, rfl, hfz, hnd⟩ := hW
  have hA : DataW.TrodAll enc Tryd.prog W 0 (fun _ => true) true Tryd.f7.params.toList args.toList ds p := hA0
  rw [Tryd.params7] at hA hval
  obtain ⟨v0, vs0, d0, ds0, p0, q0, hargs, rfl, rfl, h0, r0⟩ := trodAll_cons hA
  obtain ⟨v1, vs1, d1, ds1, p1, q1, rfl, rfl, rfl, h1, r1⟩ := trodAll_cons r0
  obtain ⟨v2, vs2, d2, ds2, p2, q2, rfl, rfl, rfl, h2, r2⟩ := trodAll_cons r1
  obtain ⟨rfl, rfl, rfl⟩ := trodAll_nil r2
  obtain rfl : args = #[v0, v1, v2] := by cases args; simp_all
  obtain ⟨rfl, rfl⟩ := trodVars_none hV
  obtain ⟨x0, rel0, w0, wf0⟩ := arg_ok (bk := Rows.uptoBulk) bulk deep0 (hval 0 3 v0 rfl rfl) h0
  obtain ⟨x1, rel1, w1, wf1⟩ := arg_ok (bk := Rows.uptoBulk) bulk deep1 (hval 1 79 v1 rfl rfl) h1
  obtain ⟨x2, rel2, w2, wf2⟩ := arg_ok (bk := Rows.uptoBulk) bulk deep2 (hval 2 80 v2 rfl rfl) h2
  have hsum : Rows.uptoBulkAll [d0, d1, d2] ≤ 1048576 := by simpa [Rows.uptoSmall] using hc
  simp only [Rows.uptoBulkAll] at hsum
  have hlt : ∀ x ∈ p0 ++ p1 ++ p2, x.block < W.heap.size := fun x hx => by simpa using hW'.lt x (by simpa using hx)
  refine (law_ok kSan rfl Tryd.func7 (.cons _ _ _ _ rel0 (.cons _ _ _ _ rel1 (.cons _ _ _ _ rel2 (VRels.nil)))) (globs hL) (bLKeep x0 x1 x2 (mx3' (N := 1048576) (ds := x1) (by have e : wt (.sl dealT) x1 = wt (.sl (.cons (.int .i64) (.cons (.sl (.sl .str)) .nil))) x1 := rfl; omega)).1 (mx3' (N := 1048576) (ds := x1) (by have e : wt (.sl dealT) x1 = wt (.sl (.cons (.int .i64) (.cons (.sl (.sl .str)) .nil))) x1 := rfl; omega)).2 (mxP' (N := 1048576) (l := x2) (by omega)).1 (mxP' (N := 1048576) (l := x2) (by omega)).2)).mono fun e W' ⟨he, hb⟩ => ?_
  subst he
  exact ⟨_, rfl, post_same (pa := (p0 ++ (p1 ++ (p2 ++ [])))) (pv := []) hW' (fun _ _ _ => trodAll_cons_mk (shut_bool Tryd.underlying4 _) trodAll_mk0) (fun sp hsp => trodAll_cons_mk (WideElems.Trod_stays laidOut rec0 lt0 h0 (fun x hx => hb.same (hlt x (by simp [hx]))) (fun x hx => hsp x (by simp [hx]))) (trodAll_cons_mk (WideElems.Trod_stays laidOut rec1 lt1 h1 (fun x hx => hb.same (hlt x (by simp [hx]))) (fun x hx => hsp x (by simp [hx]))) (trodAll_cons_mk (WideElems.Trod_stays laidOut rec2 lt2 h2 (fun x hx => hb.same (hlt x (by simp [hx]))) (fun x hx => hsp x (by simp [hx]))) (trodAll_mk0)))) (fun _ _ => rfl) rfl hb (ok_one (by kernel_rfl) rfl (okWide_bool_mk Tryd.underlying4 _))⟩
noncomputable def laidWorld (os : Os) : World :=
  { World.holding Tryd.prog os ⟨#[], #[], []⟩ with heap := (World.holding Tryd.prog os ⟨#[], #[], []⟩).heap.modify 0 fun
      | .cells _ t frozen => .cells #[.int .u8 0, .int .u8 29, .int .u8 58, .int .u8 39, .int .u8 116, .int .u8 105, .int .u8 78, .int .u8 83, .int .u8 232, .int .u8 245, .int .u8 210, .int .u8 207, .int .u8 156, .int .u8 129, .int .u8 166, .int .u8 187] t frozen
      | o => o }
theorem laid_met (os : Os) : laidMet Tryd.prog Rows.renewKeepsSecretUptoRow.laid ((laidWorld os).forCall (fun _ _ => 0) ⟨#[], #[.int .i64 0, .slice none 0 0, .slice none 0 0], []⟩).memory :=
  laidMet_of_run' 8 (by kernel_rfl) (by kernel_rfl)
theorem reads (os : Os) {H : Type} (enc : TypeId × Value → H) : ∃ places, DataW.whole enc Tryd.prog ((laidWorld os).forCall (fun _ _ => 0) ⟨#[], #[.int .i64 0, .slice none 0 0, .slice none 0 0], []⟩).memory Tryd.f7.params.toList Rows.renewKeepsSecretSpec.vars false (#[.int .i64 0, .slice none 0 0, .slice none 0 0] : Array Value).toList 8 = some ([.lit (.int .i64 0), .nil, .nil], [], places) :=
  ⟨[], by kernel_rfl⟩
theorem liftedUpto (os : Os) (started : os.Started) (H : Type) (enc : TypeId × Value → H) (F : Stop.Interp) :
    ReturnsInHanded {} Tryd.checked os 7 .any ((Rows.OpenSpec.upto Rows.renewKeepsSecretSpec).preRow enc Tryd.prog Tryd.f7 Rows.renewKeepsSecretUptoRow.domain false Rows.renewKeepsSecretUptoRow.laid) (((Rows.OpenSpec.upto Rows.renewKeepsSecretSpec).at F).post enc Tryd.prog Tryd.f7 false true false false) := by
  obtain ⟨places, hx⟩ := reads os enc
  refine returnsInHanded_of_row (C := Tryd.checked) (s := Rows.OpenSpec.upto Rows.renewKeepsSecretSpec) own started (by kernel_rfl) Tryd.func7
    (witness_row_at (enc := enc) (C := Tryd.checked) false (laidWorld os) #[.int .i64 0, .slice none 0 0, .slice none 0 0] rfl (by kernel_rfl) (by kernel_rfl) (by kernel_rfl)
      (OpenSpec.preRow_of_cond 8 hx (by kernel_rfl) (fun k hk => by cases hk; kernel_rfl) (by kernel_rfl) (laid_met os))) ?_
  intro W base args ds gs before hval hW _ hcond _ hL _ _
  exact contract H enc W base args ds gs before hval hW (hcond _ rfl) hL
theorem saidUpto : Rows.RenewKeepsSecretUptoSaid :=
  OpenClaim.holds_of_cond 7 Tryd.f7 rfl rfl rfl rfl rfl rfl rfl ⟨rfl, rfl, rfl, rfl, rfl⟩ rfl rfl rfl rfl rfl (by kernel_rfl) Tryd.func7 (by kernel_rfl)
    (of_decide_eq_true (by kernel_rfl)) (by unfold Func.isWrapper; first | (rw [if_pos (by decide +kernel)]; kernel_rfl) | (rw [if_neg (by decide +kernel)]; exact ⟨rfl, rfl⟩))
    (fun os started H enc _ F => by rw [OpenClaim.pre_eq_preRow]; exact liftedUpto os started H enc F)
theorem plain (f : FuncId) (fn : Func) (hf : Tryd.pinned.checked.prog.funcNamed "quietus/quietuslaw27.RenewKeepsSecret" = some f) (hfn : Tryd.pinned.checked.prog.funcs[f]? = some fn) :
    false = Tryd.pinned.checked.prog.looks [] ∧ ∀ (j : Nat) t, fn.params[j]? = some t → Tryd.pinned.checked.prog.wantsStandIn t = false := by
  obtain rfl : f = 7 := Option.some.inj ((show Tryd.prog.funcNamed "quietus/quietuslaw27.RenewKeepsSecret" = some 7 by kernel_rfl).symm.trans hf) |>.symm
  obtain rfl : fn = Tryd.f7 := (Option.some.inj (Tryd.func7.symm.trans hfn)).symm
  refine ⟨by kernel_rfl, fun j t ht => ?_⟩
  rw [Tryd.params7] at ht
  have hm := Array.mem_of_getElem? ht
  simp only [List.mem_toArray, List.mem_cons, List.not_mem_nil, or_false] at hm
  rcases hm with rfl | rfl | rfl
  · exact (show Tryd.prog.wantsStandIn 3 = false by kernel_rfl)
  · exact (show Tryd.prog.wantsStandIn 79 = false by kernel_rfl)
  · exact (show Tryd.prog.wantsStandIn 80 = false by kernel_rfl)
theorem cardUpto : Rows.RenewKeepsSecretUptoCardSaid :=
  Claim7.holds_tied_plain_at .later [] _ _ _ _ saidUpto (fun _ h => by cases h) (by kernel_rfl) (fun _ h => by cases h) renewKeepsSecretUpto_row_tie rfl ⟨rfl, rfl⟩ (by kernel_rfl) rfl plain (by kernel_rfl)
end Cd.renewKeepsSecret
theorem renewKeepsSecret_holds : Rows.RenewKeepsSecretUptoCardSaid := Cd.renewKeepsSecret.cardUpto
end Go.Proofs.YtmkphnlpbngenaaDoor

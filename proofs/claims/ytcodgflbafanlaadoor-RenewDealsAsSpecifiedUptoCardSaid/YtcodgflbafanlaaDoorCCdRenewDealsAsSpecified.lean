/- Texts of this claim: S27d.D6, S27d.CdRenewDealsAsSpecified. -/
import Derived.Test.YtcodgflbafanlaaDoorS13
set_option linter.unusedVariables false
set_option linter.unusedSimpArgs false
namespace Go.Proofs.YtcodgflbafanlaaDoor.S27
open Go Go.Proofs.YtcodgflbafanlaaDoor.Vc Go.Proofs
set_option maxRecDepth 100000
set_option linter.unusedVariables false

set_option maxHeartbeats 8000000 in
theorem bLDea (nd : Int) (cf : List (List (List UInt8))) (nz : List UInt8) (aa : List Int) (hp0 : cf.length ≤ 1048576) (hp1 : (∀ l ∈ cf, l.length ≤ 1048576 ∧ ∀ x ∈ l, x.length ≤ 1048576)) (hp2 : nz.length ≤ 1048576) (hp3 : aa.length = 3) : bodyP (En CSmD tys G6 QPrs) Tryd.f3 [.k] [.agg [.int .i64 nd, .sl false (.sl .str) cf], .str nz, .dat false (.arr 3 (.int .i64)) aa] (.b True) [] := by
  refine ⟨⟨rfl, by first | assumption | rfl | simp⟩, rfl, ⟨by show cf.length ≤ 1048576; first | omega | assumption, by first | assumption | simp⟩, fun h0 => ?_, fun h0 => ?_⟩
  · replace h0 : ¬ (¬ (fewP cf 40)) := h0
    refine ⟨fun h1 => ?_, fun h1 => ?_⟩
    · replace h1 : 2000 < (nz.length : Int) := h1
      refine ⟨trivial, ?_⟩
      exact ⟨rfl, rfl, congrArg V.b (propext ⟨fun _ => trivial, fun _ => by first | trivial | rfl⟩), rfl⟩
    · replace h1 : ¬ (2000 < (nz.length : Int)) := h1
      refine ⟨⟨by show (0 : Int) ≤ 0; omega, by show 0 < (3 : Int); omega, by first | assumption | rfl | simp⟩, ⟨by show (0 : Int) ≤ 1; omega, by show 1 < (3 : Int); omega, by first | assumption | rfl | simp⟩, rfl, rfl, trivial, ⟨rfl, rfl, rfl, Nat.le_of_ble_eq_true rfl⟩, ⟨by show (0 : Int) ≤ 0; omega, by show 0 < (3 : Int); omega, by first | assumption | rfl | simp⟩, ⟨by show (0 : Int) ≤ 1; omega, by show 1 < (3 : Int); omega, by first | assumption | rfl | simp⟩, rfl, rfl, trivial, ⟨rfl, rfl, rfl, Nat.le_of_ble_eq_true rfl⟩, ⟨by show (0 : Int) ≤ 2; omega, by show 2 < (3 : Int); omega, by first | assumption | rfl | simp⟩, rfl, rfl, ⟨by show cf.length ≤ 1048576; first | omega | assumption, by first | assumption | simp⟩, ⟨by show (0 : Int) ≤ 2; omega, by show 2 < (3 : Int); omega, by first | assumption | rfl | simp⟩, rfl, rfl, ⟨by show cf.length ≤ 1048576; first | omega | assumption, by first | assumption | simp⟩, ⟨rfl, rfl, rfl, Nat.le_of_ble_eq_true rfl⟩, by kernel_rfl, trivial, fun h2 => ?_, fun h2 => absurd (show True by first | trivial | exact ⟨rfl, rfl⟩ | rfl) h2⟩
      refine ⟨fun h3 => ?_, fun h3 => absurd (show True by first | trivial | exact ⟨rfl, rfl⟩ | rfl) h3⟩
      refine ⟨rfl, ⟨by show cf.length ≤ 1048576; first | omega | assumption, by first | assumption | simp⟩, fun h4 => ?_, fun h4 => absurd (show True by first | trivial | exact ⟨rfl, rfl⟩ | rfl) h4⟩
      refine ⟨fun h5 => ?_, fun h5 => absurd (show True by first | trivial | exact ⟨rfl, rfl⟩ | rfl) h5⟩
      refine ⟨rfl, ⟨by show cf.length ≤ 1048576; first | omega | assumption, by first | assumption | simp⟩, fun h6 => ?_, fun h6 => absurd (show True by first | trivial | exact ⟨rfl, rfl⟩ | rfl) h6⟩
      refine ⟨fun h7 => ?_, fun h7 => absurd (show True by first | trivial | exact ⟨rfl, rfl⟩ | rfl) h7⟩
      refine ⟨fun h8 => ?_, fun h8 => absurd (show (chkD nd cf) = (chkD nd cf) by first | trivial | exact ⟨rfl, rfl⟩ | rfl) h8⟩
      refine ⟨fun h9 => ?_, fun h9 => absurd (show (chkD nd cf) = (chkD nd cf) by first | trivial | exact ⟨rfl, rfl⟩ | rfl) h9⟩
      refine ⟨fun h10 => ?_, fun h10 => absurd (show (chkD nd cf) = (chkD nd cf) by first | trivial | exact ⟨rfl, rfl⟩ | rfl) h10⟩
      refine ⟨fun h11 => ?_, fun h11 => absurd (show (chkD nd cf) = (chkD nd cf) by first | trivial | exact ⟨rfl, rfl⟩ | rfl) h11⟩
      refine ⟨fun h12 => ?_, fun h12 => absurd (show (chkD nd cf) = (chkD nd cf) by first | trivial | exact ⟨rfl, rfl⟩ | rfl) h12⟩
      refine ⟨fun h13 => ?_, fun h13 => absurd (show (mkE (aa.getD 0 0) (aa.getD 1 0) nz) = (mkE (aa.getD 0 0) (aa.getD 1 0) nz) by first | trivial | exact ⟨rfl, rfl⟩ | rfl) h13⟩
      refine ⟨fun h14 => ?_, fun h14 => absurd (show (mkE (aa.getD 0 0) (aa.getD 1 0) nz) = (mkE (aa.getD 0 0) (aa.getD 1 0) nz) by first | trivial | exact ⟨rfl, rfl⟩ | rfl) h14⟩
      refine ⟨fun h15 => ?_, fun h15 => absurd (show (mkE (aa.getD 0 0) (aa.getD 1 0) nz) = (mkE (aa.getD 0 0) (aa.getD 1 0) nz) by first | trivial | exact ⟨rfl, rfl⟩ | rfl) h15⟩
      refine ⟨fun h16 => ?_, fun h16 => absurd (show (mkE (aa.getD 0 0) (aa.getD 1 0) nz) = (mkE (aa.getD 0 0) (aa.getD 1 0) nz) by first | trivial | exact ⟨rfl, rfl⟩ | rfl) h16⟩
      refine ⟨rfl, rfl, ⟨(mkC_mx _ _ hp2).1, (mkC_mx _ _ hp2).2, (mkC_mx _ _ hp2).1, (mkC_mx _ _ hp2).2⟩, fun h17 => ?_, fun h17 => absurd (show (mkE (aa.getD 0 0) (aa.getD 1 0) nz) = (mkE (aa.getD 0 0) (aa.getD 1 0) nz) by first | trivial | exact ⟨rfl, rfl⟩ | rfl) h17⟩
      refine ⟨fun h18 => ?_, fun h18 => absurd (show (mkN (aa.getD 0 0) (aa.getD 1 0) nz) = (mkN (aa.getD 0 0) (aa.getD 1 0) nz) ∧ (mkC (aa.getD 0 0) (aa.getD 1 0) nz) = (mkC (aa.getD 0 0) (aa.getD 1 0) nz) by first | trivial | exact ⟨rfl, rfl⟩ | rfl) h18⟩
      refine ⟨fun h19 => ?_, fun h19 => absurd (show (mkN (aa.getD 0 0) (aa.getD 1 0) nz) = (mkN (aa.getD 0 0) (aa.getD 1 0) nz) ∧ (mkC (aa.getD 0 0) (aa.getD 1 0) nz) = (mkC (aa.getD 0 0) (aa.getD 1 0) nz) by first | trivial | exact ⟨rfl, rfl⟩ | rfl) h19⟩
      refine ⟨fun h20 => ?_, fun h20 => absurd (show (mkN (aa.getD 0 0) (aa.getD 1 0) nz) = (mkN (aa.getD 0 0) (aa.getD 1 0) nz) ∧ (mkC (aa.getD 0 0) (aa.getD 1 0) nz) = (mkC (aa.getD 0 0) (aa.getD 1 0) nz) by first | trivial | exact ⟨rfl, rfl⟩ | rfl) h20⟩
      refine ⟨fun h21 => ?_, fun h21 => absurd (show (mkN (aa.getD 0 0) (aa.getD 1 0) nz) = (mkN (aa.getD 0 0) (aa.getD 1 0) nz) ∧ (mkC (aa.getD 0 0) (aa.getD 1 0) nz) = (mkC (aa.getD 0 0) (aa.getD 1 0) nz) by first | trivial | exact ⟨rfl, rfl⟩ | rfl) h21⟩
      refine ⟨fun h22 => ?_, fun h22 => absurd (show (mkN (aa.getD 0 0) (aa.getD 1 0) nz) = (mkN (aa.getD 0 0) (aa.getD 1 0) nz) ∧ (mkC (aa.getD 0 0) (aa.getD 1 0) nz) = (mkC (aa.getD 0 0) (aa.getD 1 0) nz) by first | trivial | exact ⟨rfl, rfl⟩ | rfl) h22⟩
      refine ⟨fun h23 => ?_, fun h23 => absurd (show (rowE nd cf (aa.getD 2 0)) = (rowE nd cf (aa.getD 2 0)) by first | trivial | exact ⟨rfl, rfl⟩ | rfl) h23⟩
      refine ⟨fun h24 => ?_, fun h24 => absurd (show (rowE nd cf (aa.getD 2 0)) = (rowE nd cf (aa.getD 2 0)) by first | trivial | exact ⟨rfl, rfl⟩ | rfl) h24⟩
      refine ⟨fun h25 => ?_, fun h25 => absurd (show (rowE nd cf (aa.getD 2 0)) = (rowE nd cf (aa.getD 2 0)) by first | trivial | exact ⟨rfl, rfl⟩ | rfl) h25⟩
      refine ⟨fun h26 => ?_, fun h26 => absurd (show (rowE nd cf (aa.getD 2 0)) = (rowE nd cf (aa.getD 2 0)) by first | trivial | exact ⟨rfl, rfl⟩ | rfl) h26⟩
      refine ⟨⟨Nat.le_trans (rowL_len _ _ _) hp0, Nat.le_trans (rowL_len _ _ _) hp0⟩, fun h27 => ?_, fun h27 => absurd (show (rowE nd cf (aa.getD 2 0)) = (rowE nd cf (aa.getD 2 0)) by first | trivial | exact ⟨rfl, rfl⟩ | rfl) h27⟩
      exact ⟨rfl, rfl, congrArg V.b (propext ⟨fun _ => trivial, fun _ => by first | trivial | rfl⟩), rfl⟩
  · replace h0 : ¬ (fewP cf 40) := h0
    refine ⟨trivial, ?_⟩
    exact ⟨rfl, rfl, congrArg V.b (propext ⟨fun _ => trivial, fun _ => by first | trivial | rfl⟩), rfl⟩
end Go.Proofs.YtcodgflbafanlaaDoor.S27

namespace Go.Proofs.YtcodgflbafanlaaDoor
open Go Go.Proofs.YtcodgflbafanlaaDoor.Vc Go.Proofs Go.Proofs.YtcodgflbafanlaaDoor.S27 Go.ChangeShapes Go.WideShapes Go.ChangeAt Go.RowKit
set_option maxRecDepth 100000
set_option linter.unusedVariables false
namespace Cd.renewDealsAsSpecified
open Go.Proofs.YtcodgflbafanlaaDoor.Cd
theorem deep0 : Deep Tryd.prog (.cons (.int .i64) (.cons (.sl (.sl .str)) .nil)) (.inl 24) := ⟨_, _, _, Tryd.underlying24, rfl, by kernel_rfl, by kernel_rfl, by kernel_rfl, Tryd.underlying3, ⟨by kernel_rfl, by kernel_rfl, ⟨34, Tryd.underlying22, by kernel_rfl, by decide, ⟨9, Tryd.underlying34, by kernel_rfl, by decide, Tryd.underlying9⟩⟩, trivial⟩⟩
theorem rec0 : Tryd.prog.readableRec 24 = true := by kernel_rfl
theorem lt0 : 24 < Tryd.prog.types.size := of_decide_eq_true (by kernel_rfl)
theorem deep1 : Deep Tryd.prog .str (.inl 9) := Tryd.underlying9
theorem rec1 : Tryd.prog.readableRec 9 = true := by kernel_rfl
theorem lt1 : 9 < Tryd.prog.types.size := of_decide_eq_true (by kernel_rfl)
theorem deep2 : Deep Tryd.prog (.arr 3 (.int .i64)) (.inl 25) := ⟨3, Tryd.underlying25, by kernel_rfl, by kernel_rfl, Tryd.underlying3⟩
theorem rec2 : Tryd.prog.readableRec 25 = true := by kernel_rfl
theorem lt2 : 25 < Tryd.prog.types.size := of_decide_eq_true (by kernel_rfl)
theorem globs {W : World} (h : laidMetH Tryd.prog Rows.renewDealsAsSpecifiedUptoRow.laid W) : ∀ g x, lk G6 g = some x → VRel (c0 W) [] W x (.pointer (some ⟨g, 0, none⟩)) := fun g x hx => by
  have hg : Tryd.prog.globalNamed "quietus/gf.high" = some 0 := by kernel_rfl
  have ht : Lib.TabIs Tryd.prog W "quietus/gf.high" .u8 [0, 29, 58, 39, 116, 105, 78, 83, 232, 245, 210, 207, 156, 129, 166, 187] := Lib.tabIs_of_head (rest := []) hg (by kernel_rfl) Tryd.underlying91 Tryd.underlying5 (by kernel_rfl) (by kernel_rfl) h
  have key : ∀ i, i < 16 → ([0, 29, 58, 39, 116, 105, 78, 83, 232, 245, 210, 207, 156, 129, 166, 187] : List Int).getD i 0 = ((hi.getD i 0).toNat : Int) := by decide
  have hc : ∀ i, i < hi.length → W.cell? ⟨0, i, none⟩ = some (.int .u8 ((hi.getD i 0).toNat : Int)) := fun i hi' => by
    have := ht.cell hg i hi'
    rwa [key i hi'] at this
  unfold G6 lk at hx
  cases hb : Nat.beq 0 g with
  | false => rw [hb] at hx; simp [lk] at hx
  | true =>
    rw [hb] at hx
    simp only [cond_true, Option.some.injEq] at hx
    have := beq_ok hb
    subst this hx
    exact tab_ok (spot_none (hc 0 (by decide))).2 hc rfl
theorem contract (H : Type) (enc : TypeId × Value → H) (W : World) (base : Nat) (args : Array Value) (ds gs : List (DataW H)) (before : List MemPlace)
    (hval : ∀ (j : Nat) t v, Tryd.f3.params[j]? = some t → args[j]? = some v → Value.okWide Tryd.prog W .any base t v)
    (hW : DataW.Whole enc Tryd.prog Tryd.f3.params.toList Rows.renewDealsAsSpecifiedSpec.vars false W args.toList ds gs before) (hc : Rows.uptoSmall H (ds ++ gs) = true) (hL : laidMetH Tryd.prog Rows.renewDealsAsSpecifiedUptoRow.laid W) :
    Calls Tryd.prog 3 args W fun e W' => ∃ v, e = .returned v ∧ Rows.renewDealsAsSpecifiedSpec.post enc Tryd.prog Tryd.f3 false true false false W args v W' := by
  have hW' := hW
  obtain ⟨p, q, hA0, hV, rfl, hfz, hnd⟩ := hW
  have hA : DataW.TrodAll enc Tryd.prog W 0 (fun _ => true) true Tryd.f3.params.toList args.toList ds p := hA0
  rw [Tryd.params3] at hA hval
  obtain ⟨v0, vs0, d0, ds0, p0, q0, hargs, rfl, rfl, h0, r0⟩ := trodAll_cons hA
  obtain ⟨v1, vs1, d1, ds1, p1, q1, rfl, rfl, rfl, h1, r1⟩ := trodAll_cons r0
  obtain ⟨v2, vs2, d2, ds2, p2, q2, rfl, rfl, rfl, h2, r2⟩ := trodAll_cons r1
  obtain ⟨rfl, rfl, rfl⟩ := trodAll_nil r2
  obtain rfl : args = #[v0, v1, v2] := by cases args; simp_all
  obtain ⟨rfl, rfl⟩ := trodVars_none hV
  obtain ⟨x0, rel0, w0, wf0⟩ := arg_ok (bk := Rows.uptoBulk) bulk deep0 (hval 0 24 v0 rfl rfl) h0
  obtain ⟨x1, rel1, w1, wf1⟩ := arg_ok (bk := Rows.uptoBulk) bulk deep1 (hval 1 9 v1 rfl rfl) h1
  obtain ⟨x2, rel2, w2, wf2⟩ := arg_ok (bk := Rows.uptoBulk) bulk deep2 (hval 2 25 v2 rfl rfl) h2
  have hsum : Rows.uptoBulkAll [d0, d1, d2] ≤ 1048576 := by simpa [Rows.uptoSmall] using hc
  simp only [Rows.uptoBulkAll] at hsum
  have hlt : ∀ x ∈ p0 ++ p1 ++ p2, x.block < W.heap.size := fun x hx => by simpa using hW'.lt x (by simpa using hx)
  refine (law_ok kSmD rfl Tryd.func3 (.cons _ _ _ _ rel0 (.cons _ _ _ _ rel1 (.cons _ _ _ _ rel2 (VRels.nil)))) (globs hL) (bLDea x0.1 x0.2.1 x1 x2 (mx2' (N := 1048576) (cf := x0.2.1) (by have e : wt (.cons (.int .i64) (.cons (.sl (.sl .str)) .nil)) x0 = 1 + (wt (.sl (.sl .str)) x0.2.1 + 0) := rfl; omega)).1 (mx2' (N := 1048576) (cf := x0.2.1) (by have e : wt (.cons (.int .i64) (.cons (.sl (.sl .str)) .nil)) x0 = 1 + (wt (.sl (.sl .str)) x0.2.1 + 0) := rfl; omega)).2 (by have e : wt .str x1 = x1.length + 1 := rfl; omega) wf2.1)).mono fun e W' ⟨he, hb⟩ => ?_
  subst he
  exact ⟨_, rfl, post_same (pa := (p0 ++ (p1 ++ (p2 ++ [])))) (pv := []) hW' (fun _ _ _ => trodAll_cons_mk (shut_bool Tryd.underlying4 _) trodAll_mk0) (fun sp hsp => trodAll_cons_mk (WideElems.Trod_stays laidOut rec0 lt0 h0 (fun x hx => hb.same (hlt x (by simp [hx]))) (fun x hx => hsp x (by simp [hx]))) (trodAll_cons_mk (WideElems.Trod_stays laidOut rec1 lt1 h1 (fun x hx => hb.same (hlt x (by simp [hx]))) (fun x hx => hsp x (by simp [hx]))) (trodAll_cons_mk (WideElems.Trod_stays laidOut rec2 lt2 h2 (fun x hx => hb.same (hlt x (by simp [hx]))) (fun x hx => hsp x (by simp [hx]))) (trodAll_mk0)))) (fun _ _ => rfl) rfl hb (ok_one (by kernel_rfl) rfl (okWide_bool_mk Tryd.underlying4 _))⟩
noncomputable def laidWorld (os : Os) : World :=
  { World.holding Tryd.prog os ⟨#[], #[], []⟩ with heap := (World.holding Tryd.prog os ⟨#[], #[], []⟩).heap.modify 0 fun
      | .cells _ t frozen => .cells #[.int .u8 0, .int .u8 29, .int .u8 58, .int .u8 39, .int .u8 116, .int .u8 105, .int .u8 78, .int .u8 83, .int .u8 232, .int .u8 245, .int .u8 210, .int .u8 207, .int .u8 156, .int .u8 129, .int .u8 166, .int .u8 187] t frozen
      | o => o }
theorem laid_met (os : Os) : laidMet Tryd.prog Rows.renewDealsAsSpecifiedUptoRow.laid ((laidWorld os).forCall (fun _ _ => 0) ⟨#[], #[.agg #[.int .i64 0, .slice none 0 0], .string ⟨#[]⟩, .agg #[.int .i64 0, .int .i64 0, .int .i64 0]], []⟩).memory :=
  laidMet_of_run' 8 (by kernel_rfl) (by kernel_rfl)
theorem reads (os : Os) {H : Type} (enc : TypeId × Value → H) : ∃ places, DataW.whole enc Tryd.prog ((laidWorld os).forCall (fun _ _ => 0) ⟨#[], #[.agg #[.int .i64 0, .slice none 0 0], .string ⟨#[]⟩, .agg #[.int .i64 0, .int .i64 0, .int .i64 0]], []⟩).memory Tryd.f3.params.toList Rows.renewDealsAsSpecifiedSpec.vars false (#[.agg #[.int .i64 0, .slice none 0 0], .string ⟨#[]⟩, .agg #[.int .i64 0, .int .i64 0, .int .i64 0]] : Array Value).toList 8 = some ([.agg [.lit (.int .i64 0), .nil], .lit (.string []), .agg [.lit (.int .i64 0), .lit (.int .i64 0), .lit (.int .i64 0)]], [], places) :=
  ⟨[], by kernel_rfl⟩
theorem liftedUpto (os : Os) (started : os.Started) (H : Type) (enc : TypeId × Value → H) (F : Stop.Interp) :
    ReturnsInHanded {} Tryd.checked os 3 .any ((Rows.OpenSpec.upto Rows.renewDealsAsSpecifiedSpec).preRow enc Tryd.prog Tryd.f3 Rows.renewDealsAsSpecifiedUptoRow.domain false Rows.renewDealsAsSpecifiedUptoRow.laid) (((Rows.OpenSpec.upto Rows.renewDealsAsSpecifiedSpec).at F).post enc Tryd.prog Tryd.f3 false true false false) := by
  obtain ⟨places, hx⟩ := reads os enc
  refine returnsInHanded_of_row (C := Tryd.checked) (s := Rows.OpenSpec.upto Rows.renewDealsAsSpecifiedSpec) own started (by kernel_rfl) Tryd.func3
    (witness_row_at (enc := enc) (C := Tryd.checked) false (laidWorld os) #[.agg #[.int .i64 0, .slice none 0 0], .string ⟨#[]⟩, .agg #[.int .i64 0, .int .i64 0, .int .i64 0]] rfl (by kernel_rfl) (by kernel_rfl) (by kernel_rfl)
      (OpenSpec.preRow_of_cond 8 hx (by kernel_rfl) (fun k hk => by cases hk; kernel_rfl) (by kernel_rfl) (laid_met os))) ?_
  intro W base args ds gs before hval hW _ hcond _ hL _ _
  exact contract H enc W base args ds gs before hval hW (hcond _ rfl) hL
theorem saidUpto : Rows.RenewDealsAsSpecifiedUptoSaid :=
  OpenClaim.holds_of_cond 3 Tryd.f3 rfl rfl rfl rfl rfl rfl rfl ⟨rfl, rfl, rfl, rfl, rfl⟩ rfl rfl rfl rfl rfl (by kernel_rfl) Tryd.func3 (by kernel_rfl)
    (of_decide_eq_true (by kernel_rfl)) (by unfold Func.isWrapper; first | (rw [if_pos (by decide +kernel)]; kernel_rfl) | (rw [if_neg (by decide +kernel)]; exact ⟨rfl, rfl⟩))
    (fun os started H enc _ F => by rw [OpenClaim.pre_eq_preRow]; exact liftedUpto os started H enc F)
theorem plain (f : FuncId) (fn : Func) (hf : Tryd.pinned.checked.prog.funcNamed "quietus/quietuslaw27.RenewDealsAsSpecified" = some f) (hfn : Tryd.pinned.checked.prog.funcs[f]? = some fn) :
    false = Tryd.pinned.checked.prog.looks [] ∧ ∀ (j : Nat) t, fn.params[j]? = some t → Tryd.pinned.checked.prog.wantsStandIn t = false := by
  obtain rfl : f = 3 := Option.some.inj ((show Tryd.prog.funcNamed "quietus/quietuslaw27.RenewDealsAsSpecified" = some 3 by kernel_rfl).symm.trans hf) |>.symm
  obtain rfl : fn = Tryd.f3 := (Option.some.inj (Tryd.func3.symm.trans hfn)).symm
  refine ⟨by kernel_rfl, fun j t ht => ?_⟩
  rw [Tryd.params3] at ht
  have hm := Array.mem_of_getElem? ht
  simp only [List.mem_toArray, List.mem_cons, List.not_mem_nil, or_false] at hm
  rcases hm with rfl | rfl | rfl
  · exact (show Tryd.prog.wantsStandIn 24 = false by kernel_rfl)
  · exact (show Tryd.prog.wantsStandIn 9 = false by kernel_rfl)
  · exact (show Tryd.prog.wantsStandIn 25 = false by kernel_rfl)
theorem cardUpto : Rows.RenewDealsAsSpecifiedUptoCardSaid :=
  Claim7.holds_tied_plain_at .later [] _ _ _ _ saidUpto (fun _ h => by cases h) (by kernel_rfl) (fun _ h => by cases h) renewDealsAsSpecifiedUpto_row_tie rfl ⟨rfl, rfl⟩ (by kernel_rfl) rfl plain (by kernel_rfl)
end Cd.renewDealsAsSpecified
theorem renewDealsAsSpecified_holds : Rows.RenewDealsAsSpecifiedUptoCardSaid := Cd.renewDealsAsSpecified.cardUpto
end Go.Proofs.YtcodgflbafanlaaDoor

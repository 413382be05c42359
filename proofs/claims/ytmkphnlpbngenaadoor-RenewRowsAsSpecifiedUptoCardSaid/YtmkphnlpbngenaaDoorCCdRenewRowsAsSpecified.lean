/- Texts of this claim: S27.D5, S27.CdRenewRowsAsSpecified. -/
import Derived.Test.YtmkphnlpbngenaaDoorS5
import Derived.Test.YtmkphnlpbngenaaDoorS4
set_option linter.unusedVariables false
set_option linter.unusedSimpArgs false
namespace Go.Proofs.YtmkphnlpbngenaaDoor.S27
open Go Go.Proofs.YtmkphnlpbngenaaDoor.Vc Go.Proofs
set_option maxRecDepth 100000
set_option linter.unusedVariables false

theorem cmp_mx (rs : List Rw) : (cmpL rs).length ≤ 1048576 := by
  unfold cmpL
  split
  · rename_i e
    exact Nat.le_trans (Nat.le_trans (cmpO_len rs _) (pairs_len (cmp0 e).1)) (by omega)
  · simp

def sLRas : List V → Option (Prop × V × List Blk)
  | [.sl false (.sl .str) rs, .agg [.int .i64 nd, .str sh], .dat false (.arr 2 (.int .i64)) aa] => some (rs.length ≤ 1048576 ∧ (∀ l ∈ rs, l.length ≤ 1048576 ∧ ∀ x ∈ l, x.length ≤ 1048576) ∧ aa.length = 2, .b True, [])
  | _ => none
set_option maxHeartbeats 8000000 in
theorem bLRas (rs : List (List (List UInt8))) (nd : Int) (sh : List UInt8) (aa : List Int) (hp0 : rs.length ≤ 1048576) (hp1 : (∀ l ∈ rs, l.length ≤ 1048576 ∧ ∀ x ∈ l, x.length ≤ 1048576)) (hp2 : aa.length = 2) : bodyP (En CRRfl tys G6 QPrs) Tryd.f4 [.k] [.sl false (.sl .str) rs, .agg [.int .i64 nd, .str sh], .dat false (.arr 2 (.int .i64)) aa] (.b True) [] := by
  refine ⟨⟨rfl, by first | assumption | rfl | simp⟩, rfl, ⟨by show rs.length ≤ 1048576; first | omega | assumption, by first | assumption | simp⟩, fun h0 => ?_, fun h0 => ?_⟩
  · replace h0 : ¬ (¬ (fewP rs 40)) := h0
    refine ⟨fun h1 => ?_, fun h1 => ?_⟩
    · replace h1 : 60 < (sh.length : Int) := h1
      refine ⟨trivial, ?_⟩
      exact ⟨rfl, rfl, rfl, rfl⟩
    · replace h1 : ¬ (60 < (sh.length : Int)) := h1
      refine ⟨2, [(0, .k), (4, .k), (5, .k), (8, .k)], fun n vs H => ∃ (k : Nat), k ≤ rs.length ∧ n = rs.length - k ∧ vs = [.sl false (.sl .str) rs, .ptr 0 1 0 0, .ptr 1 1 0 0, .int .i64 (k : Int)] ∧ H = [.cells [.int .i64 nd, .str sh], .row true (.int .i64) aa], ⟨rfl, rs.length, 0, by omega, by omega, rfl, rfl⟩, ?_⟩
      rintro n vs H ⟨k, hc1_0, rfl, rfl, rfl⟩
      refine ⟨fun h2 => ?_, fun h2 => ?_⟩
      · replace h2 : (k : Int) < (rs.length : Int) := h2
        refine ⟨by kernel_rfl, ⟨by show (0 : Int) ≤ (k : Int); omega, by show (k : Int) < (rs.length : Int); omega⟩, ⟨by show (0 : Int) ≤ 0; omega, by show 0 < (2 : Int); omega, by first | assumption | rfl | simp⟩, rfl, (hp1 _ (getD_mem [] rs k (by omega))).1, by kernel_rfl, ⟨by show (0 : Int) ≤ (k : Int); omega, by show (k : Int) < (rs.length : Int); omega⟩, ⟨by show (0 : Int) ≤ 0; omega, by show 0 < (2 : Int); omega, by first | assumption | rfl | simp⟩, rfl, (hp1 _ (getD_mem [] rs k (by omega))).1, ⟨rfl, rfl, rfl, Nat.le_of_ble_eq_true rfl⟩, by kernel_rfl, ⟨by show (0 : Int) ≤ (k : Int); omega, by show (k : Int) < (rs.length : Int); omega⟩, ⟨by show (0 : Int) ≤ 0; omega, by show 0 < (2 : Int); omega, by first | assumption | rfl | simp⟩, ⟨by show (0 : Int) ≤ 0; omega, by show 0 < (rs.length : Int); omega⟩, ⟨by show (0 : Int) ≤ 1; omega, by show 1 < (2 : Int); omega, by first | assumption | rfl | simp⟩, rfl, rfl, ⟨(hp1 _ (getD_mem [] rs k (by omega))).1, (hp1 _ (getD_mem [] rs 0 (by omega))).1⟩, by kernel_rfl, ⟨by show (0 : Int) ≤ (k : Int); omega, by show (k : Int) < (rs.length : Int); omega⟩, ⟨by show (0 : Int) ≤ 0; omega, by show 0 < (2 : Int); omega, by first | assumption | rfl | simp⟩, ⟨by show (0 : Int) ≤ 0; omega, by show 0 < (rs.length : Int); omega⟩, ⟨by show (0 : Int) ≤ 1; omega, by show 1 < (2 : Int); omega, by first | assumption | rfl | simp⟩, rfl, rfl, ⟨(hp1 _ (getD_mem [] rs k (by omega))).1, (hp1 _ (getD_mem [] rs 0 (by omega))).1⟩, ⟨rfl, rfl, rfl, Nat.le_of_ble_eq_true rfl⟩, fun h3 => ?_, fun h3 => ?_⟩
        · replace h3 : ¬ ((valS (rs.getD k []) (aa.getD 0 0)) ≠ (valS (rs.getD k []) (aa.getD 0 0))) := h3
          refine ⟨fun h4 => ?_, fun h4 => ?_⟩
          · replace h4 : ¬ ((valE (rs.getD k []) (aa.getD 0 0)) ≠ (valE (rs.getD k []) (aa.getD 0 0))) := h4
            refine ⟨fun h5 => ?_, fun h5 => ?_⟩
            · replace h5 : ¬ (¬ (agQ (rs.getD k []) (aa.getD 0 0) (rs.getD 0 []) (aa.getD 1 0) ↔ agQ (rs.getD k []) (aa.getD 0 0) (rs.getD 0 []) (aa.getD 1 0))) := h5
              refine ⟨fun h6 => ?_, fun h6 => ?_⟩
              · replace h6 : (agE (rs.getD k []) (aa.getD 0 0) (rs.getD 0 []) (aa.getD 1 0)) ≠ (agE (rs.getD k []) (aa.getD 0 0) (rs.getD 0 []) (aa.getD 1 0)) := h6
                exact absurd rfl h6
              · replace h6 : ¬ ((agE (rs.getD k []) (aa.getD 0 0) (rs.getD 0 []) (aa.getD 1 0)) ≠ (agE (rs.getD k []) (aa.getD 0 0) (rs.getD 0 []) (aa.getD 1 0))) := h6
                refine ⟨⟨by show (-9223372036854775808 : Int) ≤ ((k : Int) + 1); omega, by show ((k : Int) + 1) ≤ (9223372036854775807 : Int); omega⟩, ?_⟩
                exact ⟨rfl, rs.length - (k + 1), by omega, k + 1, by omega, rfl, rfl, rfl⟩
            · replace h5 : ¬ (agQ (rs.getD k []) (aa.getD 0 0) (rs.getD 0 []) (aa.getD 1 0) ↔ agQ (rs.getD k []) (aa.getD 0 0) (rs.getD 0 []) (aa.getD 1 0)) := h5
              exact absurd Iff.rfl h5
          · replace h4 : (valE (rs.getD k []) (aa.getD 0 0)) ≠ (valE (rs.getD k []) (aa.getD 0 0)) := h4
            exact absurd rfl h4
        · replace h3 : (valS (rs.getD k []) (aa.getD 0 0)) ≠ (valS (rs.getD k []) (aa.getD 0 0)) := h3
          exact absurd rfl h3
      · replace h2 : ¬ ((k : Int) < (rs.length : Int)) := h2
        refine ⟨⟨by show rs.length ≤ 1048576; first | omega | assumption, by first | assumption | simp⟩, ⟨by show rs.length ≤ 1048576; first | omega | assumption, by first | assumption | simp⟩, ⟨rfl, rfl, rfl, Nat.le_of_ble_eq_true rfl⟩, ⟨by show (0 : Int) ≤ 0; omega, by show 0 < (2 : Int); omega, by first | assumption | rfl | simp⟩, rfl, ⟨by show rs.length ≤ 1048576; first | omega | assumption, by first | assumption | simp⟩, ⟨by show (0 : Int) ≤ 0; omega, by show 0 < (2 : Int); omega, by first | assumption | rfl | simp⟩, rfl, ⟨by show rs.length ≤ 1048576; first | omega | assumption, by first | assumption | simp⟩, ⟨rfl, rfl, rfl, Nat.le_of_ble_eq_true rfl⟩, rfl, ⟨by show rs.length ≤ 1048576; first | omega | assumption, fun l hl => (hp1 l hl).1⟩, ⟨rfl, rfl, rfl, Nat.le_of_ble_eq_true rfl⟩, rfl, ⟨by show rs.length ≤ 1048576; first | omega | assumption, fun l hl => (hp1 l hl).1⟩, ⟨rfl, rfl, rfl, Nat.le_of_ble_eq_true rfl⟩, trivial, fun h7 => ?_, fun h7 => absurd (show True by simp) h7⟩
        refine ⟨fun h8 => ?_, fun h8 => ?_⟩
        · replace h8 : (cmpE rs) = (cmpE rs) := h8
          refine ⟨⟨cmp_mx rs, cmp_mx rs⟩, fun h9 => ?_, fun h9 => ?_⟩
          · replace h9 : (cmpL rs) = (cmpL rs) := h9
            refine ⟨fun h10 => ?_, fun h10 => ?_⟩
            · replace h10 : (rflE rs (aa.getD 0 0)) = (rflE rs (aa.getD 0 0)) := h10
              refine ⟨⟨Nat.le_trans (rflL_len _ _) (by omega), Nat.le_trans (rflL_len _ _) (by omega)⟩, fun h11 => ?_, fun h11 => ?_⟩
              · replace h11 : (rflL rs (aa.getD 0 0)) = (rflL rs (aa.getD 0 0)) := h11
                refine ⟨fun h12 => ?_, fun h12 => ?_⟩
                · replace h12 : (updE nd sh rs) = (updE nd sh rs) := h12
                  exact ⟨rfl, rfl, congrArg V.b (propext ⟨fun _ => trivial, fun _ => ⟨rfl, rfl, trivial⟩⟩), rfl⟩
                · replace h12 : ¬ ((updE nd sh rs) = (updE nd sh rs)) := h12
                  exact absurd rfl h12
              · replace h11 : ¬ ((rflL rs (aa.getD 0 0)) = (rflL rs (aa.getD 0 0))) := h11
                exact absurd rfl h11
            · replace h10 : ¬ ((rflE rs (aa.getD 0 0)) = (rflE rs (aa.getD 0 0))) := h10
              exact absurd rfl h10
          · replace h9 : ¬ ((cmpL rs) = (cmpL rs)) := h9
            exact absurd rfl h9
        · replace h8 : ¬ ((cmpE rs) = (cmpE rs)) := h8
          exact absurd rfl h8
  · replace h0 : ¬ (fewP rs 40) := h0
    refine ⟨trivial, ?_⟩
    exact ⟨rfl, rfl, rfl, rfl⟩
end Go.Proofs.YtmkphnlpbngenaaDoor.S27

namespace Go.Proofs.YtmkphnlpbngenaaDoor
open Go Go.Proofs.YtmkphnlpbngenaaDoor.Vc Go.Proofs Go.Proofs.YtmkphnlpbngenaaDoor.S27 Go.ChangeShapes Go.WideShapes Go.ChangeAt Go.RowKit
set_option maxRecDepth 100000
set_option linter.unusedVariables false
namespace Cd.renewRowsAsSpecified
open Go.Proofs.YtmkphnlpbngenaaDoor.Cd
theorem deep0 : Deep Tryd.prog (.sl (.sl .str)) (.inl 22) := ⟨34, Tryd.underlying22, by kernel_rfl, by decide, ⟨9, Tryd.underlying34, by kernel_rfl, by decide, Tryd.underlying9⟩⟩
theorem rec0 : Tryd.prog.readableRec 22 = true := by kernel_rfl
theorem lt0 : 22 < Tryd.prog.types.size := of_decide_eq_true (by kernel_rfl)
theorem deep1 : Deep Tryd.prog (.cons (.int .i64) (.cons .str .nil)) (.inl 45) := ⟨_, _, _, Tryd.underlying45, rfl, by kernel_rfl, by kernel_rfl, by kernel_rfl, Tryd.underlying3, ⟨by kernel_rfl, by kernel_rfl, Tryd.underlying9, trivial⟩⟩
theorem rec1 : Tryd.prog.readableRec 45 = true := by kernel_rfl
theorem lt1 : 45 < Tryd.prog.types.size := of_decide_eq_true (by kernel_rfl)
theorem deep2 : Deep Tryd.prog (.arr 2 (.int .i64)) (.inl 46) := ⟨3, Tryd.underlying46, by kernel_rfl, by kernel_rfl, Tryd.underlying3⟩
theorem rec2 : Tryd.prog.readableRec 46 = true := by kernel_rfl
theorem lt2 : 46 < Tryd.prog.types.size := of_decide_eq_true (by kernel_rfl)
theorem globs {W : World} (h : laidMetH Tryd.prog Rows.renewRowsAsSpecifiedUptoRow.laid W) : ∀ g x, lk G6 g = some x → VRel (c0 W) [] W x (.pointer (some ⟨g, 0, none⟩)) := fun g x hx => by
  have hg : Tryd.prog.globalNamed "quietus/gf.high" = some 0 := by kernel_rfl
  have ht : Lib.TabIs Tryd.prog W "quietus/gf.high" .u8 [0, 29, 58, 39, 116, 105, 78, 83, 232, 245, 210, 207, 156, 129, 166, 187] := Lib.tabIs_of_head (rest := []) hg (by kernel_rfl) Tryd.underlying129 Tryd.underlying5 (by kernel_rfl) (by kernel_rfl) h
  have key : ∀ i, i < 16 → ([0, 29, 58, 39, 116, 105, 78, 83, 232, 245, 210, 207, 156, 129, 166, 187] : List Int).getD i 0 = ((hi.getD i 0).toNat : Int) := by decide
  have hc : ∀ i, i < hi.length → W.cell? ⟨0, i, none⟩ = some (.int .u8 ((hi.getD i 0).toNat : Int)) := fun i hi' => by
    have := ht.cell hg i hi'
    rwa [key i hi'] at this
  unfold G6 lk at hx
  cases hb : Nat.beq 0 g with
  | false => rw [hb] at hx; simp [lk] at hx
  | true =>
    rw [hb] at hx
    simp only [cond_true, Option.some.injEq] at hx
    have := beq_ok hb
    subst this hx
    exact tab_ok (spot_none (hc 0 (by decide))).2 hc rfl
theorem contract (H : Type) (enc : TypeId × Value → H) (W : World) (base : Nat) (args : Array Value) (ds gs : List (DataW H)) (before : List MemPlace)
    (hval : ∀ (j : Nat) t v, Tryd.f4.params[j]? = some t → args[j]? = some v → Value.okWide Tryd.prog W .any base t v)
    (hW : DataW.Whole enc Tryd.prog Tryd.f4.params.toList Rows.renewRowsAsSpecifiedSpec.vars false W args.toList ds gs before) (hc : Rows.uptoSmall H (ds ++ gs) = true) (hL : laidMetH Tryd.prog Rows.renewRowsAsSpecifiedUptoRow.laid W) :
    Calls Tryd.prog 4 args W fun e W' => ∃ v, e = .returned v ∧ Rows.renewRowsAsSpecifiedSpec.post enc Tryd.prog Tryd.f4 false true false false W args v W' := by
  have hW' := hW
  obtain ⟨p, q, hA0, hV, rfl, hfz, hnd⟩ := hW
  have hA : DataW.TrodAll enc Tryd.prog W 0 (fun _ => true) true Tryd.f4.params.toList args.toList ds p := hA0
  rw [Tryd.params4] at hA hval
  obtain ⟨v0, vs0, d0, ds0, p0, q0, hargs, rfl, rfl, h0, r0⟩ := trodAll_cons hA
  obtain ⟨v1, vs1, d1, ds1, p1, q1, rfl, rfl, rfl, h1, r1⟩ := trodAll_cons r0
  obtain ⟨v2, vs2, d2, ds2, p2, q2, rfl, rfl, rfl, h2, r2⟩ := trodAll_cons r1
  obtain ⟨rfl, rfl, rfl⟩ := trodAll_nil r2
  obtain rfl : args = #[v0, v1, v2] := by cases args; simp_all
  obtain ⟨rfl, rfl⟩ := trodVars_none hV
  obtain ⟨x0, rel0, w0, wf0⟩ := arg_ok (bk := Rows.uptoBulk) bulk deep0 (hval 0 22 v0 rfl rfl) h0
  obtain ⟨x1, rel1, w1, wf1⟩ := arg_ok (bk := Rows.uptoBulk) bulk deep1 (hval 1 45 v1 rfl rfl) h1
  obtain ⟨x2, rel2, w2, wf2⟩ := arg_ok (bk := Rows.uptoBulk) bulk deep2 (hval 2 46 v2 rfl rfl) h2
  have hsum : Rows.uptoBulkAll [d0, d1, d2] ≤ 1048576 := by simpa [Rows.uptoSmall] using hc
  simp only [Rows.uptoBulkAll] at hsum
  have hlt : ∀ x ∈ p0 ++ p1 ++ p2, x.block < W.heap.size := fun x hx => by simpa using hW'.lt x (by simpa using hx)
  refine (law_ok kRRfl rfl Tryd.func4 (.cons _ _ _ _ rel0 (.cons _ _ _ _ rel1 (.cons _ _ _ _ rel2 (VRels.nil)))) (globs hL) (bLRas x0 x1.1 x1.2.1 x2 (mx2' (N := 1048576) (cf := x0) (by omega)).1 (mx2' (N := 1048576) (cf := x0) (by omega)).2 wf2.1)).mono fun e W' ⟨he, hb⟩ => ?_
  subst he
  exact ⟨_, rfl, post_same (pa := (p0 ++ (p1 ++ (p2 ++ [])))) (pv := []) hW' (fun _ _ _ => trodAll_cons_mk (shut_bool Tryd.underlying4 _) trodAll_mk0) (fun sp hsp => trodAll_cons_mk (WideElems.Trod_stays laidOut rec0 lt0 h0 (fun x hx => hb.same (hlt x (by simp [hx]))) (fun x hx => hsp x (by simp [hx]))) (trodAll_cons_mk (WideElems.Trod_stays laidOut rec1 lt1 h1 (fun x hx => hb.same (hlt x (by simp [hx]))) (fun x hx => hsp x (by simp [hx]))) (trodAll_cons_mk (WideElems.Trod_stays laidOut rec2 lt2 h2 (fun x hx => hb.same (hlt x (by simp [hx]))) (fun x hx => hsp x (by simp [hx]))) (trodAll_mk0)))) (fun _ _ => rfl) rfl hb (ok_one (by kernel_rfl) rfl (okWide_bool_mk Tryd.underlying4 _))⟩
noncomputable def laidWorld (os : Os) : World :=
  { World.holding Tryd.prog os ⟨#[], #[], []⟩ with heap := (World.holding Tryd.prog os ⟨#[], #[], []⟩).heap.modify 0 fun
      | .cells _ t frozen => .cells #[.int .u8 0, .int .u8 29, .int .u8 58, .int .u8 39, .int .u8 116, .int .u8 105, .int .u8 78, .int .u8 83, .int .u8 232, .int .u8 245, .int .u8 210, .int .u8 207, .int .u8 156, .int .u8 129, .int .u8 166, .int .u8 187] t frozen
      | o => o }
theorem laid_met (os : Os) : laidMet Tryd.prog Rows.renewRowsAsSpecifiedUptoRow.laid ((laidWorld os).forCall (fun _ _ => 0) ⟨#[], #[.slice none 0 0, .agg #[.int .i64 0, .string ⟨#[]⟩], .agg #[.int .i64 0, .int .i64 0]], []⟩).memory :=
  laidMet_of_run' 8 (by kernel_rfl) (by kernel_rfl)
theorem reads (os : Os) {H : Type} (enc : TypeId × Value → H) : ∃ places, DataW.whole enc Tryd.prog ((laidWorld os).forCall (fun _ _ => 0) ⟨#[], #[.slice none 0 0, .agg #[.int .i64 0, .string ⟨#[]⟩], .agg #[.int .i64 0, .int .i64 0]], []⟩).memory Tryd.f4.params.toList Rows.renewRowsAsSpecifiedSpec.vars false (#[.slice none 0 0, .agg #[.int .i64 0, .string ⟨#[]⟩], .agg #[.int .i64 0, .int .i64 0]] : Array Value).toList 8 = some ([.nil, .agg [.lit (.int .i64 0), .lit (.string [])], .agg [.lit (.int .i64 0), .lit (.int .i64 0)]], [], places) :=
  ⟨[], by kernel_rfl⟩
theorem liftedUpto (os : Os) (started : os.Started) (H : Type) (enc : TypeId × Value → H) (F : Stop.Interp) :
    ReturnsInHanded {} Tryd.checked os 4 .any ((Rows.OpenSpec.upto Rows.renewRowsAsSpecifiedSpec).preRow enc Tryd.prog Tryd.f4 Rows.renewRowsAsSpecifiedUptoRow.domain false Rows.renewRowsAsSpecifiedUptoRow.laid) (((Rows.OpenSpec.upto Rows.renewRowsAsSpecifiedSpec).at F).post enc Tryd.prog Tryd.f4 false true false false) := by
  obtain ⟨places, hx⟩ := reads os enc
  refine returnsInHanded_of_row (C := Tryd.checked) (s := Rows.OpenSpec.upto Rows.renewRowsAsSpecifiedSpec) own started (by kernel_rfl) Tryd.func4
    (witness_row_at (enc := enc) (C := Tryd.checked) false (laidWorld os) #[.slice none 0 0, .agg #[.int .i64 0, .string ⟨#[]⟩], .agg #[.int .i64 0, .int .i64 0]] rfl (by kernel_rfl) (by kernel_rfl) (by kernel_rfl)
      (OpenSpec.preRow_of_cond 8 hx (by kernel_rfl) (fun k hk => by cases hk; kernel_rfl) (by kernel_rfl) (laid_met os))) ?_
  intro W base args ds gs before hval hW _ hcond _ hL _ _
  exact contract H enc W base args ds gs before hval hW (hcond _ rfl) hL
theorem saidUpto : Rows.RenewRowsAsSpecifiedUptoSaid :=
  OpenClaim.holds_of_cond 4 Tryd.f4 rfl rfl rfl rfl rfl rfl rfl ⟨rfl, rfl, rfl, rfl, rfl⟩ rfl rfl rfl rfl rfl (by kernel_rfl) Tryd.func4 (by kernel_rfl)
    (of_decide_eq_true (by kernel_rfl)) (by unfold Func.isWrapper; first | (rw [if_pos (by decide +kernel)]; kernel_rfl) | (rw [if_neg (by decide +kernel)]; exact ⟨rfl, rfl⟩))
    (fun os started H enc _ F => by rw [OpenClaim.pre_eq_preRow]; exact liftedUpto os started H enc F)
theorem plain (f : FuncId) (fn : Func) (hf : Tryd.pinned.checked.prog.funcNamed "quietus/quietuslaw27.RenewRowsAsSpecified" = some f) (hfn : Tryd.pinned.checked.prog.funcs[f]? = some fn) :
    false = Tryd.pinned.checked.prog.looks [] ∧ ∀ (j : Nat) t, fn.params[j]? = some t → Tryd.pinned.checked.prog.wantsStandIn t = false := by
  obtain rfl : f = 4 := Option.some.inj ((show Tryd.prog.funcNamed "quietus/quietuslaw27.RenewRowsAsSpecified" = some 4 by kernel_rfl).symm.trans hf) |>.symm
  obtain rfl : fn = Tryd.f4 := (Option.some.inj (Tryd.func4.symm.trans hfn)).symm
  refine ⟨by kernel_rfl, fun j t ht => ?_⟩
  rw [Tryd.params4] at ht
  have hm := Array.mem_of_getElem? ht
  simp only [List.mem_toArray, List.mem_cons, List.not_mem_nil, or_false] at hm
  rcases hm with rfl | rfl | rfl
  · exact (show Tryd.prog.wantsStandIn 22 = false by kernel_rfl)
  · exact (show Tryd.prog.wantsStandIn 45 = false by kernel_rfl)
  · exact (show Tryd.prog.wantsStandIn 46 = false by kernel_rfl)
theorem cardUpto : Rows.RenewRowsAsSpecifiedUptoCardSaid :=
  Claim7.holds_tied_plain_at .later [] _ _ _ _ saidUpto (fun _ h => by cases h) (by kernel_rfl) (fun _ h => by cases h) renewRowsAsSpecifiedUpto_row_tie rfl ⟨rfl, rfl⟩ (by kernel_rfl) rfl plain (by kernel_rfl)
end Cd.renewRowsAsSpecified
theorem renewRowsAsSpecified_holds : Rows.RenewRowsAsSpecifiedUptoCardSaid := Cd.renewRowsAsSpecified.cardUpto
end Go.Proofs.YtmkphnlpbngenaaDoor

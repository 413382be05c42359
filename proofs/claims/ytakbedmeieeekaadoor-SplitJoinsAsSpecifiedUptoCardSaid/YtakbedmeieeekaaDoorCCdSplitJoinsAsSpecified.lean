/- Texts of this claim: S26.D2, S26.CdSplitJoinsAsSpecified. -/
import Derived.Test.YtakbedmeieeekaaDoorS4
set_option linter.unusedVariables false
set_option linter.unusedSimpArgs false
namespace Go.Proofs.YtakbedmeieeekaaDoor.S26
open Go Go.Proofs.YtakbedmeieeekaaDoor.Vc Go.Proofs
set_option maxRecDepth 100000
set_option linter.unusedVariables false

def sLJoi : List V → Option (Prop × V × List Blk)
  | [.sl false (.cons (.int .i64) (.cons .str .nil)) l, .dat false (.arr 2 (.int .i64)) ns, .str s] => some (l.length ≤ 1048576 ∧ (∀ s ∈ l, s.2.1.length ≤ 1048576) ∧ s.length ≤ 1048576 ∧ ns.length = 2, .b True, [])
  | _ => none
set_option maxHeartbeats 4000000 in
theorem bLJoi (l : List (Int × (List UInt8 × Unit))) (ns : List Int) (s : List UInt8) (hp0 : l.length ≤ 1048576) (hp1 : (∀ s ∈ l, s.2.1.length ≤ 1048576)) (hp2 : s.length ≤ 1048576) (hp3 : ns.length = 2) : bodyP (En CSan tys G6 QCo2 [1000002]) Tryd.f4 [.k] [.sl false (.cons (.int .i64) (.cons .str .nil)) l, .dat false (.arr 2 (.int .i64)) ns, .str s] (.b True) [] := by
  refine ⟨⟨rfl, by first | assumption | rfl | simp⟩, rfl, by show l.length ≤ 1048576; first | omega | assumption, fun h0 => ?_, fun h0 => ?_⟩
  · replace h0 : ¬ (¬ (fewS l 12)) := h0
    refine ⟨fun h1 => ?_, fun h1 => ?_⟩
    · replace h1 : 5000 < (s.length : Int) := h1
      refine ⟨trivial, ?_⟩
      exact ⟨rfl, rfl, rfl, rfl⟩
    · replace h1 : ¬ (5000 < (s.length : Int)) := h1
      refine ⟨⟨by show (0 : Int) ≤ 0; omega, by show 0 < (2 : Int); omega, by first | assumption | rfl | simp⟩, rfl, by show l.length ≤ 1048576; first | omega | assumption, ⟨by show (0 : Int) ≤ 0; omega, by show 0 < (2 : Int); omega, by first | assumption | rfl | simp⟩, rfl, by show l.length ≤ 1048576; first | omega | assumption, ⟨rfl, rfl, rfl, Nat.le_of_ble_eq_true rfl⟩, ⟨by show (0 : Int) ≤ 0; omega, by show 0 < (2 : Int); omega, by first | assumption | rfl | simp⟩, ⟨by show (0 : Int) ≤ 1; omega, by show 1 < (2 : Int); omega, by first | assumption | rfl | simp⟩, rfl, rfl, by show l.length ≤ 1048576; first | omega | assumption, ⟨rfl, rfl, rfl, Nat.le_of_ble_eq_true rfl⟩, ⟨by show (0 : Int) ≤ 0; omega, by show 0 < (2 : Int); omega, by first | assumption | rfl | simp⟩, ⟨by show (0 : Int) ≤ 1; omega, by show 1 < (2 : Int); omega, by first | assumption | rfl | simp⟩, rfl, rfl, by show l.length ≤ 1048576; first | omega | assumption, ⟨rfl, rfl, rfl, Nat.le_of_ble_eq_true rfl⟩, ⟨by show (0 : Int) ≤ 0; omega, by show 0 < (2 : Int); omega, by first | assumption | rfl | simp⟩, rfl, ⟨by show l.length ≤ 1048576; first | omega | assumption, by show s.length ≤ 1048576; first | omega | assumption⟩, ⟨by show (0 : Int) ≤ 0; omega, by show 0 < (2 : Int); omega, by first | assumption | rfl | simp⟩, rfl, ⟨by show l.length ≤ 1048576; first | omega | assumption, by show s.length ≤ 1048576; first | omega | assumption⟩, ⟨rfl, rfl, rfl, Nat.le_of_ble_eq_true rfl⟩, by show l.length ≤ 1048576; first | omega | assumption, by show l.length ≤ 1048576; first | omega | assumption, fun h2 => ?_, fun h2 => ?_⟩
      · replace h2 : ¬ ((chkE l) ≠ (chkE l)) := h2
        refine ⟨fun h3 => ?_, fun h3 => ?_⟩
        · replace h3 : ¬ ((joS l (ns.getD 0 0) 0) ≠ (joS l (ns.getD 0 0) 0)) := h3
          refine ⟨fun h4 => ?_, fun h4 => ?_⟩
          · replace h4 : ¬ ((joE l (ns.getD 0 0)) ≠ (joE l (ns.getD 0 0))) := h4
            refine ⟨fun h5 => ?_, fun h5 => ?_⟩
            · replace h5 : ¬ (¬ ((exH l (ns.getD 0 0) (ns.getD 1 0)) = (exH l (ns.getD 0 0) (ns.getD 1 0)) ∧ ((exS l (ns.getD 0 0) (ns.getD 1 0)) = (exS l (ns.getD 0 0) (ns.getD 1 0)) ∧ True))) := h5
              refine ⟨fun h6 => ?_, fun h6 => ?_⟩
              · replace h6 : ¬ ((exE l (ns.getD 0 0) (ns.getD 1 0)) ≠ (exE l (ns.getD 0 0) (ns.getD 1 0))) := h6
                refine ⟨fun h7 => ?_, fun h7 => ?_⟩
                · replace h7 : ¬ ((ftN l (ns.getD 0 0) s) ≠ (ftN l (ns.getD 0 0) s)) := h7
                  refine ⟨fun h8 => ?_, fun h8 => ?_⟩
                  · replace h8 : ¬ (ftP l (ns.getD 0 0) s ↔ ftP l (ns.getD 0 0) s) := h8
                    exact absurd Iff.rfl h8
                  · replace h8 : ¬ (¬ (ftP l (ns.getD 0 0) s ↔ ftP l (ns.getD 0 0) s)) := h8
                    refine ⟨fun h9 => ?_, fun h9 => ?_⟩
                    · replace h9 : (l.length : Int) < 2 := h9
                      refine ⟨trivial, ?_⟩
                      exact ⟨rfl, rfl, rfl, rfl⟩
                    · replace h9 : ¬ ((l.length : Int) < 2) := h9
                      refine ⟨by kernel_rfl, ⟨by show (0 : Int) ≤ 0; omega, by show 0 < (l.length : Int); omega⟩, ⟨by show (0 : Int) ≤ 1; omega, by show 1 < (l.length : Int); omega⟩, rfl, rfl, ⟨by show (((l.getD 0 (0, ([], ()))).2).1).length ≤ 1048576; exact hp1 _ (getD_mem (0, [], ()) l 0 (by omega)), by show (((l.getD 1 (0, ([], ()))).2).1).length ≤ 1048576; exact hp1 _ (getD_mem (0, [], ()) l 1 (by omega))⟩, ⟨rfl, rfl, rfl, Nat.le_of_ble_eq_true rfl⟩, by kernel_rfl, ⟨by show (0 : Int) ≤ 0; omega, by show 0 < (l.length : Int); omega⟩, ⟨by show (0 : Int) ≤ 1; omega, by show 1 < (l.length : Int); omega⟩, rfl, rfl, ⟨by show (((l.getD 0 (0, ([], ()))).2).1).length ≤ 1048576; exact hp1 _ (getD_mem (0, [], ()) l 0 (by omega)), by show (((l.getD 1 (0, ([], ()))).2).1).length ≤ 1048576; exact hp1 _ (getD_mem (0, [], ()) l 1 (by omega))⟩, ⟨rfl, rfl, rfl, Nat.le_of_ble_eq_true rfl⟩, trivial, fun h10 => ?_, fun h10 => absurd (show True by simp) h10⟩
                      refine ⟨fun h11 => ?_, fun h11 => ?_⟩
                      · replace h11 : ((adH (((l.getD 0 (0, ([], ()))).1), (((l.getD 0 (0, ([], ()))).2).1), ()) (((l.getD 1 (0, ([], ()))).1), (((l.getD 1 (0, ([], ()))).2).1), ())) = (adH (((l.getD 0 (0, ([], ()))).1), (((l.getD 0 (0, ([], ()))).2).1), ()) (((l.getD 1 (0, ([], ()))).1), (((l.getD 1 (0, ([], ()))).2).1), ())) ∧ ((adS (((l.getD 0 (0, ([], ()))).1), (((l.getD 0 (0, ([], ()))).2).1), ()) (((l.getD 1 (0, ([], ()))).1), (((l.getD 1 (0, ([], ()))).2).1), ())) = (adS (((l.getD 0 (0, ([], ()))).1), (((l.getD 0 (0, ([], ()))).2).1), ()) (((l.getD 1 (0, ([], ()))).1), (((l.getD 1 (0, ([], ()))).2).1), ())) ∧ True)) := h11
                        exact ⟨rfl, rfl, congrArg V.b (propext ⟨fun _ => trivial, fun _ => rfl⟩), rfl⟩
                      · replace h11 : ¬ ((adH (((l.getD 0 (0, ([], ()))).1), (((l.getD 0 (0, ([], ()))).2).1), ()) (((l.getD 1 (0, ([], ()))).1), (((l.getD 1 (0, ([], ()))).2).1), ())) = (adH (((l.getD 0 (0, ([], ()))).1), (((l.getD 0 (0, ([], ()))).2).1), ()) (((l.getD 1 (0, ([], ()))).1), (((l.getD 1 (0, ([], ()))).2).1), ())) ∧ ((adS (((l.getD 0 (0, ([], ()))).1), (((l.getD 0 (0, ([], ()))).2).1), ()) (((l.getD 1 (0, ([], ()))).1), (((l.getD 1 (0, ([], ()))).2).1), ())) = (adS (((l.getD 0 (0, ([], ()))).1), (((l.getD 0 (0, ([], ()))).2).1), ()) (((l.getD 1 (0, ([], ()))).1), (((l.getD 1 (0, ([], ()))).2).1), ())) ∧ True)) := h11
                        exact absurd ⟨rfl, rfl, trivial⟩ h11
                · replace h7 : (ftN l (ns.getD 0 0) s) ≠ (ftN l (ns.getD 0 0) s) := h7
                  exact absurd rfl h7
              · replace h6 : (exE l (ns.getD 0 0) (ns.getD 1 0)) ≠ (exE l (ns.getD 0 0) (ns.getD 1 0)) := h6
                exact absurd rfl h6
            · replace h5 : ¬ ((exH l (ns.getD 0 0) (ns.getD 1 0)) = (exH l (ns.getD 0 0) (ns.getD 1 0)) ∧ ((exS l (ns.getD 0 0) (ns.getD 1 0)) = (exS l (ns.getD 0 0) (ns.getD 1 0)) ∧ True)) := h5
              exact absurd ⟨rfl, rfl, trivial⟩ h5
          · replace h4 : (joE l (ns.getD 0 0)) ≠ (joE l (ns.getD 0 0)) := h4
            exact absurd rfl h4
        · replace h3 : (joS l (ns.getD 0 0) 0) ≠ (joS l (ns.getD 0 0) 0) := h3
          exact absurd rfl h3
      · replace h2 : (chkE l) ≠ (chkE l) := h2
        exact absurd rfl h2
  · replace h0 : ¬ (fewS l 12) := h0
    refine ⟨trivial, ?_⟩
    exact ⟨rfl, rfl, rfl, rfl⟩
end Go.Proofs.YtakbedmeieeekaaDoor.S26

namespace Go.Proofs.YtakbedmeieeekaaDoor
open Go Go.Proofs.YtakbedmeieeekaaDoor.Vc Go.Proofs Go.Proofs.YtakbedmeieeekaaDoor.S26 Go.ChangeShapes Go.WideShapes Go.ChangeAt Go.RowKit
set_option maxRecDepth 100000
set_option linter.unusedVariables false
namespace Cd.splitJoinsAsSpecified
open Go.Proofs.YtakbedmeieeekaaDoor.Cd
theorem deep0 : Deep Tryd.prog (.sl (.cons (.int .i64) (.cons .str .nil))) (.inl 27) := ⟨44, Tryd.underlying27, by kernel_rfl, by decide, ⟨_, _, _, Tryd.underlying44, rfl, by kernel_rfl, by kernel_rfl, by kernel_rfl, Tryd.underlying3, ⟨by kernel_rfl, by kernel_rfl, Tryd.underlying9, trivial⟩⟩⟩
theorem rec0 : Tryd.prog.readableRec 27 = true := by kernel_rfl
theorem lt0 : 27 < Tryd.prog.types.size := of_decide_eq_true (by kernel_rfl)
theorem deep1 : Deep Tryd.prog (.arr 2 (.int .i64)) (.inl 36) := ⟨3, Tryd.underlying36, by kernel_rfl, by kernel_rfl, Tryd.underlying3⟩
theorem rec1 : Tryd.prog.readableRec 36 = true := by kernel_rfl
theorem lt1 : 36 < Tryd.prog.types.size := of_decide_eq_true (by kernel_rfl)
theorem deep2 : Deep Tryd.prog .str (.inl 9) := Tryd.underlying9
theorem rec2 : Tryd.prog.readableRec 9 = true := by kernel_rfl
theorem lt2 : 9 < Tryd.prog.types.size := of_decide_eq_true (by kernel_rfl)
theorem globs {W : World} (h : laidMetH Tryd.prog Rows.splitJoinsAsSpecifiedUptoRow.laid W) : ∀ g x, lk G6 g = some x → VRel (c0 W) [] W x (.pointer (some ⟨g, 0, none⟩)) := fun g x hx => by
  have hg : Tryd.prog.globalNamed "quietus/gf.high" = some 0 := by kernel_rfl
  have ht : Lib.TabIs Tryd.prog W "quietus/gf.high" .u8 [0, 29, 58, 39, 116, 105, 78, 83, 232, 245, 210, 207, 156, 129, 166, 187] := Lib.tabIs_of_head (rest := []) hg (by kernel_rfl) Tryd.underlying131 Tryd.underlying5 (by kernel_rfl) (by kernel_rfl) h
  have key : ∀ i, i < 16 → ([0, 29, 58, 39, 116, 105, 78, 83, 232, 245, 210, 207, 156, 129, 166, 187] : List Int).getD i 0 = ((hi.getD i 0).toNat : Int) := by decide
  have hc : ∀ i, i < hi.length → W.cell? ⟨0, i, none⟩ = some (.int .u8 ((hi.getD i 0).toNat : Int)) := fun i hi' => by
    have := ht.cell hg i hi'
    rwa [key i hi'] at this
  unfold G6 lk at hx
  cases hb : Nat.beq 0 g with
  | false => rw [hb] at hx; simp [lk] at hx
  | true =>
    rw [hb] at hx
    simp only [cond_true, Option.some.injEq] at hx
    have := beq_ok hb
    subst this hx
    exact tab_ok (spot_none (hc 0 (by decide))).2 hc rfl
theorem contract (H : Type) (enc : TypeId × Value → H) (W : World) (base : Nat) (args : Array Value) (ds gs : List (DataW H)) (before : List MemPlace)
    (hval : ∀ (j : Nat) t v, Tryd.f4.params[j]? = some t → args[j]? = some v → Value.okWide Tryd.prog W .any base t v)
    (hW : DataW.Whole enc Tryd.prog Tryd.f4.params.toList Rows.splitJoinsAsSpecifiedSpec.vars false W args.toList ds gs before) (hc : Rows.uptoSmall H (ds ++ gs) = true) (hL : laidMetH Tryd.prog Rows.splitJoinsAsSpecifiedUptoRow.laid W) :
    Calls Tryd.prog 4 args W fun e W' => ∃ v, e = .returned v ∧ Rows.splitJoinsAsSpecifiedSpec.post enc Tryd.prog Tryd.f4 false true false false W args v W' := by
  have hW' := hW
  obtain ⟨p, q, hA0, hV, rfl, hfz, hnd⟩ := hW
  have hA : DataW.TrodAll enc Tryd.prog W 0 (fun _ => true) true Tryd.f4.params.toList args.toList ds p := hA0
  rw [Tryd.params4] at hA hval
  obtain ⟨v0, vs0, d0, ds0, p0, q0, hargs, rfl, rfl, h0, r0⟩ := trodAll_cons hA
  obtain ⟨v1, vs1, d1, ds1, p1, q1, rfl, rfl, rfl, h1, r1⟩ := trodAll_cons r0
  obtain ⟨v2, vs2, d2, ds2, p2, q2, rfl, rfl, rfl, h2, r2⟩ := trodAll_cons r1
  obtain ⟨rfl, rfl, rfl⟩ := trodAll_nil r2
  obtain rfl : args = #[v0, v1, v2] := by cases args; simp_all
  obtain ⟨rfl, rfl⟩ := trodVars_none hV
  obtain ⟨x0, rel0, w0, wf0⟩ := arg_ok (bk := Rows.uptoBulk) bulk deep0 (hval 0 27 v0 rfl rfl) h0
  obtain ⟨x1, rel1, w1, wf1⟩ := arg_ok (bk := Rows.uptoBulk) bulk deep1 (hval 1 36 v1 rfl rfl) h1
  obtain ⟨x2, rel2, w2, wf2⟩ := arg_ok (bk := Rows.uptoBulk) bulk deep2 (hval 2 9 v2 rfl rfl) h2
  have hsum : Rows.uptoBulkAll [d0, d1, d2] ≤ 1048576 := by simpa [Rows.uptoSmall] using hc
  simp only [Rows.uptoBulkAll] at hsum
  have hlt : ∀ x ∈ p0 ++ p1 ++ p2, x.block < W.heap.size := fun x hx => by simpa using hW'.lt x (by simpa using hx)
  refine (law_ok (kSan.frz [1000002]) rfl Tryd.func4 (.cons _ _ _ _ rel0 (.cons _ _ _ _ rel1 (.cons _ _ _ _ rel2 (VRels.nil)))) (globs hL) (bLJoi x0 x1 x2 (mxS (N := 1048576) (l := x0) (by omega)).1 (mxS (N := 1048576) (l := x0) (by omega)).2 (by have e : wt .str x2 = List.length x2 + 1 := rfl; omega) wf1.1)).mono fun e W' ⟨he, hb⟩ => ?_
  subst he
  exact ⟨_, rfl, post_same (pa := (p0 ++ (p1 ++ (p2 ++ [])))) (pv := []) hW' (fun _ _ _ => trodAll_cons_mk (shut_bool Tryd.underlying4 _) trodAll_mk0) (fun sp hsp => trodAll_cons_mk (WideElems.Trod_stays laidOut rec0 lt0 h0 (fun x hx => hb.same (hlt x (by simp [hx]))) (fun x hx => hsp x (by simp [hx]))) (trodAll_cons_mk (WideElems.Trod_stays laidOut rec1 lt1 h1 (fun x hx => hb.same (hlt x (by simp [hx]))) (fun x hx => hsp x (by simp [hx]))) (trodAll_cons_mk (WideElems.Trod_stays laidOut rec2 lt2 h2 (fun x hx => hb.same (hlt x (by simp [hx]))) (fun x hx => hsp x (by simp [hx]))) (trodAll_mk0)))) (fun _ _ => rfl) rfl hb (ok_one (by kernel_rfl) rfl (okWide_bool_mk Tryd.underlying4 _))⟩
noncomputable def laidWorld (os : Os) : World :=
  { World.holding Tryd.prog os ⟨#[], #[], []⟩ with heap := (World.holding Tryd.prog os ⟨#[], #[], []⟩).heap.modify 0 fun
      | .cells _ t frozen => .cells #[.int .u8 0, .int .u8 29, .int .u8 58, .int .u8 39, .int .u8 116, .int .u8 105, .int .u8 78, .int .u8 83, .int .u8 232, .int .u8 245, .int .u8 210, .int .u8 207, .int .u8 156, .int .u8 129, .int .u8 166, .int .u8 187] t frozen
      | o => o }
theorem laid_met (os : Os) : laidMet Tryd.prog Rows.splitJoinsAsSpecifiedUptoRow.laid ((laidWorld os).forCall (fun _ _ => 0) ⟨#[], #[.slice none 0 0, .agg #[.int .i64 0, .int .i64 0], .string ⟨#[]⟩], []⟩).memory :=
  laidMet_of_run' 8 (by kernel_rfl) (by kernel_rfl)
theorem reads (os : Os) {H : Type} (enc : TypeId × Value → H) : ∃ places, DataW.whole enc Tryd.prog ((laidWorld os).forCall (fun _ _ => 0) ⟨#[], #[.slice none 0 0, .agg #[.int .i64 0, .int .i64 0], .string ⟨#[]⟩], []⟩).memory Tryd.f4.params.toList Rows.splitJoinsAsSpecifiedSpec.vars false (#[.slice none 0 0, .agg #[.int .i64 0, .int .i64 0], .string ⟨#[]⟩] : Array Value).toList 8 = some ([.nil, .agg [.lit (.int .i64 0), .lit (.int .i64 0)], .lit (.string [])], [], places) :=
  ⟨[], by kernel_rfl⟩
theorem liftedUpto (os : Os) (started : os.Started) (H : Type) (enc : TypeId × Value → H) (F : Stop.Interp) :
    ReturnsInHanded {} Tryd.checked os 4 .any ((Rows.OpenSpec.upto Rows.splitJoinsAsSpecifiedSpec).preRow enc Tryd.prog Tryd.f4 Rows.splitJoinsAsSpecifiedUptoRow.domain false Rows.splitJoinsAsSpecifiedUptoRow.laid) (((Rows.OpenSpec.upto Rows.splitJoinsAsSpecifiedSpec).at F).post enc Tryd.prog Tryd.f4 false true false false) := by
  obtain ⟨places, hx⟩ := reads os enc
  refine returnsInHanded_of_row (C := Tryd.checked) (s := Rows.OpenSpec.upto Rows.splitJoinsAsSpecifiedSpec) own started (by kernel_rfl) Tryd.func4
    (witness_row_at (enc := enc) (C := Tryd.checked) false (laidWorld os) #[.slice none 0 0, .agg #[.int .i64 0, .int .i64 0], .string ⟨#[]⟩] rfl (by kernel_rfl) (by kernel_rfl) (by kernel_rfl)
      (OpenSpec.preRow_of_cond 8 hx (by kernel_rfl) (fun k hk => by cases hk; kernel_rfl) (by kernel_rfl) (laid_met os))) ?_
  intro W base args ds gs before hval hW _ hcond _ hL _ _
  exact contract H enc W base args ds gs before hval hW (hcond _ rfl) hL
theorem saidUpto : Rows.SplitJoinsAsSpecifiedUptoSaid :=
  OpenClaim.holds_of_cond 4 Tryd.f4 rfl rfl rfl rfl rfl rfl rfl ⟨rfl, rfl, rfl, rfl, rfl⟩ rfl rfl rfl rfl rfl (by kernel_rfl) Tryd.func4 (by kernel_rfl)
    (of_decide_eq_true (by kernel_rfl)) (by unfold Func.isWrapper; first | (rw [if_pos (by decide +kernel)]; kernel_rfl) | (rw [if_neg (by decide +kernel)]; exact ⟨rfl, rfl⟩))
    (fun os started H enc _ F => by rw [OpenClaim.pre_eq_preRow]; exact liftedUpto os started H enc F)
theorem plain (f : FuncId) (fn : Func) (hf : Tryd.pinned.checked.prog.funcNamed "quietus/quietuslaw26.SplitJoinsAsSpecified" = some f) (hfn : Tryd.pinned.checked.prog.funcs[f]? = some fn) :
    false = Tryd.pinned.checked.prog.looks [] ∧ ∀ (j : Nat) t, fn.params[j]? = some t → Tryd.pinned.checked.prog.wantsStandIn t = false := by
  obtain rfl : f = 4 := Option.some.inj ((show Tryd.prog.funcNamed "quietus/quietuslaw26.SplitJoinsAsSpecified" = some 4 by kernel_rfl).symm.trans hf) |>.symm
  obtain rfl : fn = Tryd.f4 := (Option.some.inj (Tryd.func4.symm.trans hfn)).symm
  refine ⟨by kernel_rfl, fun j t ht => ?_⟩
  rw [Tryd.params4] at ht
  have hm := Array.mem_of_getElem? ht
  simp only [List.mem_toArray, List.mem_cons, List.not_mem_nil, or_false] at hm
  rcases hm with rfl | rfl | rfl
  · exact (show Tryd.prog.wantsStandIn 27 = false by kernel_rfl)
  · exact (show Tryd.prog.wantsStandIn 36 = false by kernel_rfl)
  · exact (show Tryd.prog.wantsStandIn 9 = false by kernel_rfl)
theorem cardUpto : Rows.SplitJoinsAsSpecifiedUptoCardSaid :=
  Claim7.holds_tied_plain_at .later [] _ _ _ _ saidUpto (fun _ h => by cases h) (by kernel_rfl) (fun _ h => by cases h) splitJoinsAsSpecifiedUpto_row_tie rfl ⟨rfl, rfl⟩ (by kernel_rfl) rfl plain (by kernel_rfl)
end Cd.splitJoinsAsSpecified
theorem splitJoinsAsSpecified_holds : Rows.SplitJoinsAsSpecifiedUptoCardSaid := Cd.splitJoinsAsSpecified.cardUpto
end Go.Proofs.YtakbedmeieeekaaDoor

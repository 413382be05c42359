/- quietus/quietuslaw38.TraceFollowsDerivations returns true for every input that fits the given statement of the second form (at most 1048576 values and letters), and its arguments read afterwards as before. Condition: none but those of the given row. -/
import Derived.Test.YtgljcfnplkcfhaaS8
import Derived.Test.YtgljcfnplkcfhaaS7
set_option linter.unusedVariables false
set_option linter.unusedSimpArgs false
namespace Go.Proofs.Ytgljcfnplkcfhaa
open Go Go.Proofs.Ytgljcfnplkcfhaa.Vc Go.Proofs Go.Proofs.Ytgljcfnplkcfhaa.S38 Go.ChangeShapes Go.WideShapes Go.ChangeAt Go.RowKit
set_option maxRecDepth 100000
set_option linter.unusedVariables false
namespace Cd.traceFollowsDerivations
open Go.Proofs.Ytgljcfnplkcfhaa.Cd
theorem deep0 : Deep Try.prog (.sl (.cons (.int .i64) (.cons (.int .i64) (.cons (.int .i64) (.cons (.sl (.int .i64)) (.cons (.int .i64) (.cons (.int .i64) (.cons (.int .i64) (.cons (.int .i64) (.cons (.int .i64) (.cons (.int .i64) .nil))))))))))) (.inl 80) := ⟨82, Try.underlying80, by kernel_rfl, by decide, ⟨_, _, _, Try.underlying82, rfl, by kernel_rfl, by kernel_rfl, by kernel_rfl, Try.underlying3, ⟨by kernel_rfl, by kernel_rfl, Try.underlying3, ⟨by kernel_rfl, by kernel_rfl, Try.underlying3, ⟨by kernel_rfl, by kernel_rfl, ⟨3, Try.underlying22, by kernel_rfl, by decide, Try.underlying3⟩, ⟨by kernel_rfl, by kernel_rfl, Try.underlying3, ⟨by kernel_rfl, by kernel_rfl, Try.underlying3, ⟨by kernel_rfl, by kernel_rfl, Try.underlying3, ⟨by kernel_rfl, by kernel_rfl, Try.underlying3, ⟨by kernel_rfl, by kernel_rfl, Try.underlying3, ⟨by kernel_rfl, by kernel_rfl, Try.underlying3, trivial⟩⟩⟩⟩⟩⟩⟩⟩⟩⟩⟩
theorem rec0 : Try.prog.readableRec 80 = true := by kernel_rfl
theorem lt0 : 80 < Try.prog.types.size := of_decide_eq_true (by kernel_rfl)
theorem globs {W : World} (h : laidMetH Try.prog Rows.traceFollowsDerivationsUptoRow.laid W) : ∀ g x, lk ([] : List (Nat × V)) g = some x → VRel (c0 W) [] W x (.pointer (some ⟨g, 0, none⟩)) := fun g x hx => by simp [lk] at hx
theorem contract (H : Type) (enc : TypeId × Value → H) (W : World) (base : Nat) (args : Array Value) (ds gs : List (DataW H)) (before : List MemPlace)
    (hval : ∀ (j : Nat) t v, Try.f12.params[j]? = some t → args[j]? = some v → Value.okWide Try.prog W .any base t v)
    (hW : DataW.Whole enc Try.prog Try.f12.params.toList Rows.traceFollowsDerivationsSpec.vars false W args.toList ds gs before) (hc : Rows.uptoSmall H (ds ++ gs) = true) (hL : laidMetH Try.prog Rows.traceFollowsDerivationsUptoRow.laid W) :
    Calls Try.prog 12 args W fun e W' => ∃ v, e = .returned v ∧ Rows.traceFollowsDerivationsSpec.post enc Try.prog Try.f12 false true false false W args v W' := by
  have hW' := hW
  obtain ⟨p, q, hA0, hV, rfl, hfz, hnd⟩ := hW
  have hA : DataW.TrodAll enc Try.prog W 0 (fun _ => true) true Try.f12.params.toList args.toList ds p := hA0
  rw [Try.params12] at hA hval
  obtain ⟨v0, vs0, d0, ds0, p0, q0, hargs, rfl, rfl, h0, r0⟩ := trodAll_cons hA
  obtain ⟨rfl, rfl, rfl⟩ := trodAll_nil r0
  obtain rfl : args = #[v0] := by cases args; simp_all
  obtain ⟨rfl, rfl⟩ := trodVars_none hV
  obtain ⟨x0, rel0, w0, wf0⟩ := arg_ok (bk := Rows.uptoBulk) bulk deep0 (hval 0 80 v0 rfl rfl) h0
  have hsum : Rows.uptoBulkAll [d0] ≤ 1048576 := by simpa [Rows.uptoSmall] using hc
  simp only [Rows.uptoBulkAll] at hsum
  have hlt : ∀ x ∈ p0, x.block < W.heap.size := fun x hx => by simpa using hW'.lt x (by simpa using hx)
  refine (law_ok (kRCk.frz [1000002]) rfl Try.func12 (.cons _ _ _ _ rel0 (VRels.nil)) (globs hL) (bLDer x0 (by have := led_len x0; omega) (fun a ha => by have := led_of x0 a ha; omega))).mono fun e W' ⟨he, hb⟩ => ?_
  subst he
  exact ⟨_, rfl, post_same (pa := (p0 ++ [])) (pv := []) hW' (fun _ _ _ => trodAll_cons_mk (shut_bool Try.underlying4 _) trodAll_mk0) (fun sp hsp => trodAll_cons_mk (WideElems.Trod_stays laidOut rec0 lt0 h0 (fun x hx => hb.same (hlt x (by simp [hx]))) (fun x hx => hsp x (by simp [hx]))) (trodAll_mk0)) (fun _ _ => rfl) rfl hb (ok_one (by kernel_rfl) rfl (okWide_bool_mk Try.underlying4 _))⟩
noncomputable def laidWorld (os : Os) : World := World.holding Try.prog os ⟨#[], #[], []⟩
theorem laid_met (os : Os) : laidMet Try.prog Rows.traceFollowsDerivationsUptoRow.laid ((laidWorld os).forCall (fun _ _ => 0) ⟨#[], #[.slice none 0 0], []⟩).memory :=
  laidMet_of_run' 8 (by kernel_rfl) (by kernel_rfl)
theorem reads (os : Os) {H : Type} (enc : TypeId × Value → H) : ∃ places, DataW.whole enc Try.prog ((laidWorld os).forCall (fun _ _ => 0) ⟨#[], #[.slice none 0 0], []⟩).memory Try.f12.params.toList Rows.traceFollowsDerivationsSpec.vars false (#[.slice none 0 0] : Array Value).toList 8 = some ([.nil], [], places) :=
  ⟨[], by kernel_rfl⟩
theorem liftedUpto (os : Os) (started : os.Started) (H : Type) (enc : TypeId × Value → H) (F : Stop.Interp) :
    ReturnsInHanded {} Try.checked os 12 .any ((Rows.OpenSpec.upto Rows.traceFollowsDerivationsSpec).preRow enc Try.prog Try.f12 Rows.traceFollowsDerivationsUptoRow.domain false Rows.traceFollowsDerivationsUptoRow.laid) (((Rows.OpenSpec.upto Rows.traceFollowsDerivationsSpec).at F).post enc Try.prog Try.f12 false true false false) := by
  obtain ⟨places, hx⟩ := reads os enc
  refine returnsInHanded_of_row (C := Try.checked) (s := Rows.OpenSpec.upto Rows.traceFollowsDerivationsSpec) own started (by kernel_rfl) Try.func12
    (witness_row_at (enc := enc) (C := Try.checked) false (laidWorld os) #[.slice none 0 0] rfl (by kernel_rfl) (by kernel_rfl) (by kernel_rfl)
      (OpenSpec.preRow_of_cond 8 hx (by kernel_rfl) (fun k hk => by cases hk; kernel_rfl) (by kernel_rfl) (laid_met os))) ?_
  intro W base args ds gs before hval hW _ hcond _ hL _ _
  exact contract H enc W base args ds gs before hval hW (hcond _ rfl) hL
theorem saidUpto : Rows.TraceFollowsDerivationsUptoSaid :=
  OpenClaim.holds_of_cond 12 Try.f12 rfl rfl rfl rfl rfl rfl rfl ⟨rfl, rfl, rfl, rfl, rfl⟩ rfl rfl rfl rfl rfl (by kernel_rfl) Try.func12 (by kernel_rfl)
    (of_decide_eq_true (by kernel_rfl)) (by unfold Func.isWrapper; first | (rw [if_pos (by decide +kernel)]; kernel_rfl) | (rw [if_neg (by decide +kernel)]; exact ⟨rfl, rfl⟩))
    (fun os started H enc _ F => by rw [OpenClaim.pre_eq_preRow]; exact liftedUpto os started H enc F)

end Cd.traceFollowsDerivations
theorem traceFollowsDerivations_holds : Rows.TraceFollowsDerivationsUptoSaid := Cd.traceFollowsDerivations.saidUpto
end Go.Proofs.Ytgljcfnplkcfhaa

/- quietus/quietuslaw38.TraceTellsMore returns true for every input that fits the given statement of the second form (at most 1048576 values and letters), and its arguments read afterwards as before. Condition: none but those of the given row. -/
import Derived.Test.YtgljcfnplkcfhaaS7
import Derived.Test.YtgljcfnplkcfhaaS5
set_option linter.unusedVariables false
set_option linter.unusedSimpArgs false
namespace Go.Proofs.Ytgljcfnplkcfhaa
open Go Go.Proofs.Ytgljcfnplkcfhaa.Vc Go.Proofs Go.Proofs.Ytgljcfnplkcfhaa.S38 Go.ChangeShapes Go.WideShapes Go.ChangeAt Go.RowKit
set_option maxRecDepth 100000
set_option linter.unusedVariables false
namespace Cd.traceTellsMore
open Go.Proofs.Ytgljcfnplkcfhaa.Cd
theorem deep0 : Deep Try.prog (.sl (.cons (.int .i64) (.cons (.int .i64) (.cons (.int .i64) (.cons (.sl (.int .i64)) (.cons (.int .i64) (.cons (.int .i64) (.cons (.int .i64) (.cons (.int .i64) (.cons (.int .i64) (.cons (.int .i64) .nil))))))))))) (.inl 80) := ⟨82, Try.underlying80, by kernel_rfl, by decide, ⟨_, _, _, Try.underlying82, rfl, by kernel_rfl, by kernel_rfl, by kernel_rfl, Try.underlying3, ⟨by kernel_rfl, by kernel_rfl, Try.underlying3, ⟨by kernel_rfl, by kernel_rfl, Try.underlying3, ⟨by kernel_rfl, by kernel_rfl, ⟨3, Try.underlying22, by kernel_rfl, by decide, Try.underlying3⟩, ⟨by kernel_rfl, by kernel_rfl, Try.underlying3, ⟨by kernel_rfl, by kernel_rfl, Try.underlying3, ⟨by kernel_rfl, by kernel_rfl, Try.underlying3, ⟨by kernel_rfl, by kernel_rfl, Try.underlying3, ⟨by kernel_rfl, by kernel_rfl, Try.underlying3, ⟨by kernel_rfl, by kernel_rfl, Try.underlying3, trivial⟩⟩⟩⟩⟩⟩⟩⟩⟩⟩⟩
theorem rec0 : Try.prog.readableRec 80 = true := by kernel_rfl
theorem lt0 : 80 < Try.prog.types.size := of_decide_eq_true (by kernel_rfl)
theorem deep1 : Deep Try.prog (.arr 3 (.int .i64)) (.inl 25) := ⟨3, Try.underlying25, by kernel_rfl, by kernel_rfl, Try.underlying3⟩
theorem rec1 : Try.prog.readableRec 25 = true := by kernel_rfl
theorem lt1 : 25 < Try.prog.types.size := of_decide_eq_true (by kernel_rfl)
theorem deep2 : Deep Try.prog (.arr 2 (.cons (.int .i64) (.cons (.sl (.cons (.int .i64) (.cons (.int .i64) .nil))) .nil))) (.inl 116) := ⟨98, Try.underlying116, by kernel_rfl, by kernel_rfl, ⟨_, _, _, Try.underlying98, rfl, by kernel_rfl, by kernel_rfl, by kernel_rfl, Try.underlying3, ⟨by kernel_rfl, by kernel_rfl, ⟨77, Try.underlying44, by kernel_rfl, by decide, ⟨_, _, _, Try.underlying77, rfl, by kernel_rfl, by kernel_rfl, by kernel_rfl, Try.underlying3, ⟨by kernel_rfl, by kernel_rfl, Try.underlying3, trivial⟩⟩⟩, trivial⟩⟩⟩
theorem rec2 : Try.prog.readableRec 116 = true := by kernel_rfl
theorem lt2 : 116 < Try.prog.types.size := of_decide_eq_true (by kernel_rfl)
theorem globs {W : World} (h : laidMetH Try.prog Rows.traceTellsMoreUptoRow.laid W) : ∀ g x, lk ([] : List (Nat × V)) g = some x → VRel (c0 W) [] W x (.pointer (some ⟨g, 0, none⟩)) := fun g x hx => by simp [lk] at hx
theorem contract (H : Type) (enc : TypeId × Value → H) (W : World) (base : Nat) (args : Array Value) (ds gs : List (DataW H)) (before : List MemPlace)
    (hval : ∀ (j : Nat) t v, Try.f14.params[j]? = some t → args[j]? = some v → Value.okWide Try.prog W .any base t v)
    (hW : DataW.Whole enc Try.prog Try.f14.params.toList Rows.traceTellsMoreSpec.vars false W args.toList ds gs before) (hc : Rows.uptoSmall H (ds ++ gs) = true) (hL : laidMetH Try.prog Rows.traceTellsMoreUptoRow.laid W) :
    Calls Try.prog 14 args W fun e W' => ∃ v, e = .returned v ∧ Rows.traceTellsMoreSpec.post enc Try.prog Try.f14 false true false false W args v W' := by
  have hW' := hW
  obtain ⟨p, q, hA0, hV, rfl, hfz, hnd⟩ := hW
  have hA : DataW.TrodAll enc Try.prog W 0 (fun _ => true) true Try.f14.params.toList args.toList ds p := hA0
  rw [Try.params14] at hA hval
  obtain ⟨v0, vs0, d0, ds0, p0, q0, hargs, rfl, rfl, h0, r0⟩ := trodAll_cons hA
  obtain ⟨v1, vs1, d1, ds1, p1, q1, rfl, rfl, rfl, h1, r1⟩ := trodAll_cons r0
  obtain ⟨v2, vs2, d2, ds2, p2, q2, rfl, rfl, rfl, h2, r2⟩ := trodAll_cons r1
  obtain ⟨rfl, rfl, rfl⟩ := trodAll_nil r2
  obtain rfl : args = #[v0, v1, v2] := by cases args; simp_all
  obtain ⟨rfl, rfl⟩ := trodVars_none hV
  obtain ⟨x0, rel0, w0, wf0⟩ := arg_ok (bk := Rows.uptoBulk) bulk deep0 (hval 0 80 v0 rfl rfl) h0
  obtain ⟨x1, rel1, w1, wf1⟩ := arg_ok (bk := Rows.uptoBulk) bulk deep1 (hval 1 25 v1 rfl rfl) h1
  obtain ⟨x2, rel2, w2, wf2⟩ := arg_ok (bk := Rows.uptoBulk) bulk deep2 (hval 2 116 v2 rfl rfl) h2
  have hsum : Rows.uptoBulkAll [d0, d1, d2] ≤ 1048576 := by simpa [Rows.uptoSmall] using hc
  simp only [Rows.uptoBulkAll] at hsum
  have hlt : ∀ x ∈ p0 ++ p1 ++ p2, x.block < W.heap.size := fun x hx => by simpa using hW'.lt x (by simpa using hx)
  refine (law_ok (kRCk.frz [1000002, 1000004, 7000000]) rfl Try.func14 (.cons _ _ _ _ rel0 (.cons _ _ _ _ rel1 (.cons _ _ _ _ rel2 (VRels.nil)))) (globs hL) (bLMore x0 x1 x2 (by have := led_len x0; omega) (fun a ha => by have := led_of x0 a ha; omega) wf1.1 wf2.1 (fun s hs => by have := spy_len x2 s hs; omega))).mono fun e W' ⟨he, hb⟩ => ?_
  subst he
  exact ⟨_, rfl, post_same (pa := (p0 ++ (p1 ++ (p2 ++ [])))) (pv := []) hW' (fun _ _ _ => trodAll_cons_mk (shut_bool Try.underlying4 _) trodAll_mk0) (fun sp hsp => trodAll_cons_mk (WideElems.Trod_stays laidOut rec0 lt0 h0 (fun x hx => hb.same (hlt x (by simp [hx]))) (fun x hx => hsp x (by simp [hx]))) (trodAll_cons_mk (WideElems.Trod_stays laidOut rec1 lt1 h1 (fun x hx => hb.same (hlt x (by simp [hx]))) (fun x hx => hsp x (by simp [hx]))) (trodAll_cons_mk (WideElems.Trod_stays laidOut rec2 lt2 h2 (fun x hx => hb.same (hlt x (by simp [hx]))) (fun x hx => hsp x (by simp [hx]))) (trodAll_mk0)))) (fun _ _ => rfl) rfl hb (ok_one (by kernel_rfl) rfl (okWide_bool_mk Try.underlying4 _))⟩
noncomputable def laidWorld (os : Os) : World := World.holding Try.prog os ⟨#[], #[], []⟩
theorem laid_met (os : Os) : laidMet Try.prog Rows.traceTellsMoreUptoRow.laid ((laidWorld os).forCall (fun _ _ => 0) ⟨#[], #[.slice none 0 0, .agg #[.int .i64 0, .int .i64 0, .int .i64 0], .agg #[.int .i64 0, .slice none 0 0, .int .i64 0, .slice none 0 0]], []⟩).memory :=
  laidMet_of_run' 8 (by kernel_rfl) (by kernel_rfl)
theorem reads (os : Os) {H : Type} (enc : TypeId × Value → H) : ∃ places, DataW.whole enc Try.prog ((laidWorld os).forCall (fun _ _ => 0) ⟨#[], #[.slice none 0 0, .agg #[.int .i64 0, .int .i64 0, .int .i64 0], .agg #[.int .i64 0, .slice none 0 0, .int .i64 0, .slice none 0 0]], []⟩).memory Try.f14.params.toList Rows.traceTellsMoreSpec.vars false (#[.slice none 0 0, .agg #[.int .i64 0, .int .i64 0, .int .i64 0], .agg #[.int .i64 0, .slice none 0 0, .int .i64 0, .slice none 0 0]] : Array Value).toList 8 = some ([.nil, .agg [.lit (.int .i64 0), .lit (.int .i64 0), .lit (.int .i64 0)], .agg [.agg [.lit (.int .i64 0), .nil], .agg [.lit (.int .i64 0), .nil]]], [], places) :=
  ⟨[], by kernel_rfl⟩
theorem liftedUpto (os : Os) (started : os.Started) (H : Type) (enc : TypeId × Value → H) (F : Stop.Interp) :
    ReturnsInHanded {} Try.checked os 14 .any ((Rows.OpenSpec.upto Rows.traceTellsMoreSpec).preRow enc Try.prog Try.f14 Rows.traceTellsMoreUptoRow.domain false Rows.traceTellsMoreUptoRow.laid) (((Rows.OpenSpec.upto Rows.traceTellsMoreSpec).at F).post enc Try.prog Try.f14 false true false false) := by
  obtain ⟨places, hx⟩ := reads os enc
  refine returnsInHanded_of_row (C := Try.checked) (s := Rows.OpenSpec.upto Rows.traceTellsMoreSpec) own started (by kernel_rfl) Try.func14
    (witness_row_at (enc := enc) (C := Try.checked) false (laidWorld os) #[.slice none 0 0, .agg #[.int .i64 0, .int .i64 0, .int .i64 0], .agg #[.int .i64 0, .slice none 0 0, .int .i64 0, .slice none 0 0]] rfl (by kernel_rfl) (by kernel_rfl) (by kernel_rfl)
      (OpenSpec.preRow_of_cond 8 hx (by kernel_rfl) (fun k hk => by cases hk; kernel_rfl) (by kernel_rfl) (laid_met os))) ?_
  intro W base args ds gs before hval hW _ hcond _ hL _ _
  exact contract H enc W base args ds gs before hval hW (hcond _ rfl) hL
theorem saidUpto : Rows.TraceTellsMoreUptoSaid :=
  OpenClaim.holds_of_cond 14 Try.f14 rfl rfl rfl rfl rfl rfl rfl ⟨rfl, rfl, rfl, rfl, rfl⟩ rfl rfl rfl rfl rfl (by kernel_rfl) Try.func14 (by kernel_rfl)
    (of_decide_eq_true (by kernel_rfl)) (by unfold Func.isWrapper; first | (rw [if_pos (by decide +kernel)]; kernel_rfl) | (rw [if_neg (by decide +kernel)]; exact ⟨rfl, rfl⟩))
    (fun os started H enc _ F => by rw [OpenClaim.pre_eq_preRow]; exact liftedUpto os started H enc F)

end Cd.traceTellsMore
theorem traceTellsMore_holds : Rows.TraceTellsMoreUptoSaid := Cd.traceTellsMore.saidUpto
end Go.Proofs.Ytgljcfnplkcfhaa

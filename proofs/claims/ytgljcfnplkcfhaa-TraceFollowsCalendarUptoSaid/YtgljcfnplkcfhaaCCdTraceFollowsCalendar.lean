/- quietus/quietuslaw38.TraceFollowsCalendar returns true for every input that fits the given statement of the second form (at most 1048576 values and letters), and its arguments read afterwards as before. Condition: none but those of the given row. -/
import Derived.Test.YtgljcfnplkcfhaaS7
set_option linter.unusedVariables false
set_option linter.unusedSimpArgs false
namespace Go.Proofs.Ytgljcfnplkcfhaa
open Go Go.Proofs.Ytgljcfnplkcfhaa.Vc Go.Proofs Go.Proofs.Ytgljcfnplkcfhaa.S38 Go.Proofs.Ytgljcfnplkcfhaa.S38c Go.ChangeShapes Go.WideShapes Go.ChangeAt Go.RowKit
set_option maxRecDepth 100000
set_option linter.unusedVariables false
namespace Cd.traceFollowsCalendar
open Go.Proofs.Ytgljcfnplkcfhaa.Cd
theorem deep0 : Deep Try.prog (.cons (.int .i64) (.cons (.int .i64) (.cons (.int .i64) (.cons (.int .i64) (.cons (.sl (.int .i64)) .nil))))) (.inl 24) := ⟨_, _, _, Try.underlying24, rfl, by kernel_rfl, by kernel_rfl, by kernel_rfl, Try.underlying3, ⟨by kernel_rfl, by kernel_rfl, Try.underlying3, ⟨by kernel_rfl, by kernel_rfl, Try.underlying3, ⟨by kernel_rfl, by kernel_rfl, Try.underlying3, ⟨by kernel_rfl, by kernel_rfl, ⟨3, Try.underlying22, by kernel_rfl, by decide, Try.underlying3⟩, trivial⟩⟩⟩⟩⟩
theorem rec0 : Try.prog.readableRec 24 = true := by kernel_rfl
theorem lt0 : 24 < Try.prog.types.size := of_decide_eq_true (by kernel_rfl)
theorem deep1 : Deep Try.prog (.cons (.int .i64) (.cons (.sl (.cons (.int .i64) (.cons (.int .i64) .nil))) .nil)) (.inl 98) := ⟨_, _, _, Try.underlying98, rfl, by kernel_rfl, by kernel_rfl, by kernel_rfl, Try.underlying3, ⟨by kernel_rfl, by kernel_rfl, ⟨77, Try.underlying44, by kernel_rfl, by decide, ⟨_, _, _, Try.underlying77, rfl, by kernel_rfl, by kernel_rfl, by kernel_rfl, Try.underlying3, ⟨by kernel_rfl, by kernel_rfl, Try.underlying3, trivial⟩⟩⟩, trivial⟩⟩
theorem rec1 : Try.prog.readableRec 98 = true := by kernel_rfl
theorem lt1 : 98 < Try.prog.types.size := of_decide_eq_true (by kernel_rfl)
theorem deep2 : Deep Try.prog (.arr 2 (.int .i64)) (.inl 45) := ⟨3, Try.underlying45, by kernel_rfl, by kernel_rfl, Try.underlying3⟩
theorem rec2 : Try.prog.readableRec 45 = true := by kernel_rfl
theorem lt2 : 45 < Try.prog.types.size := of_decide_eq_true (by kernel_rfl)
theorem globs {W : World} (h : laidMetH Try.prog Rows.traceFollowsCalendarUptoRow.laid W) : ∀ g x, lk ([] : List (Nat × V)) g = some x → VRel (c0 W) [] W x (.pointer (some ⟨g, 0, none⟩)) := fun g x hx => by simp [lk] at hx
theorem contract (H : Type) (enc : TypeId × Value → H) (W : World) (base : Nat) (args : Array Value) (ds gs : List (DataW H)) (before : List MemPlace)
    (hval : ∀ (j : Nat) t v, Try.f15.params[j]? = some t → args[j]? = some v → Value.okWide Try.prog W .any base t v)
    (hW : DataW.Whole enc Try.prog Try.f15.params.toList Rows.traceFollowsCalendarSpec.vars false W args.toList ds gs before) (hc : Rows.uptoSmall H (ds ++ gs) = true) (hL : laidMetH Try.prog Rows.traceFollowsCalendarUptoRow.laid W) :
    Calls Try.prog 15 args W fun e W' => ∃ v, e = .returned v ∧ Rows.traceFollowsCalendarSpec.post enc Try.prog Try.f15 false true false false W args v W' := by
  have hW' := hW
  obtain ⟨p, q, hA0, hV, rfl, hfz, hnd⟩ := hW
  have hA : DataW.TrodAll enc Try.prog W 0 (fun _ => true) true Try.f15.params.toList args.toList ds p := hA0
  rw [Try.params15] at hA hval
  obtain ⟨v0, vs0, d0, ds0, p0, q0, hargs, rfl, rfl, h0, r0⟩ := trodAll_cons hA
  obtain ⟨v1, vs1, d1, ds1, p1, q1, rfl, rfl, rfl, h1, r1⟩ := trodAll_cons r0
  obtain ⟨v2, vs2, d2, ds2, p2, q2, rfl, rfl, rfl, h2, r2⟩ := trodAll_cons r1
  obtain ⟨rfl, rfl, rfl⟩ := trodAll_nil r2
  obtain rfl : args = #[v0, v1, v2] := by cases args; simp_all
  obtain ⟨rfl, rfl⟩ := trodVars_none hV
  obtain ⟨x0, rel0, w0, wf0⟩ := arg_ok (bk := Rows.uptoBulk) bulk deep0 (hval 0 24 v0 rfl rfl) h0
  obtain ⟨x1, rel1, w1, wf1⟩ := arg_ok (bk := Rows.uptoBulk) bulk deep1 (hval 1 98 v1 rfl rfl) h1
  obtain ⟨x2, rel2, w2, wf2⟩ := arg_ok (bk := Rows.uptoBulk) bulk deep2 (hval 2 45 v2 rfl rfl) h2
  have hsum : Rows.uptoBulkAll [d0, d1, d2] ≤ 1048576 := by simpa [Rows.uptoSmall] using hc
  simp only [Rows.uptoBulkAll] at hsum
  have hlt : ∀ x ∈ p0 ++ p1 ++ p2, x.block < W.heap.size := fun x hx => by simpa using hW'.lt x (by simpa using hx)
  refine (law_ok (kRFew.frz [46, 1000002, 1000004]) rfl Try.func15 (.cons _ _ _ _ rel0 (.cons _ _ _ _ rel1 (.cons _ _ _ _ rel2 (VRels.nil)))) (globs hL) (bLCal x0.1 x0.2.1 x0.2.2.1 x0.2.2.2.1 x0.2.2.2.2.1 x1.1 x1.2.1 x2 (by simp only [wt_cons, wt_int, wt_nil, wt_ints] at *; omega) (by have hw := cap_len x1.2.1; simp only [wt_cons, wt_int, wt_nil, wt_ints] at *; omega) wf2.1)).mono fun e W' ⟨he, hb⟩ => ?_
  subst he
  exact ⟨_, rfl, post_same (pa := (p0 ++ (p1 ++ (p2 ++ [])))) (pv := []) hW' (fun _ _ _ => trodAll_cons_mk (shut_bool Try.underlying4 _) trodAll_mk0) (fun sp hsp => trodAll_cons_mk (WideElems.Trod_stays laidOut rec0 lt0 h0 (fun x hx => hb.same (hlt x (by simp [hx]))) (fun x hx => hsp x (by simp [hx]))) (trodAll_cons_mk (WideElems.Trod_stays laidOut rec1 lt1 h1 (fun x hx => hb.same (hlt x (by simp [hx]))) (fun x hx => hsp x (by simp [hx]))) (trodAll_cons_mk (WideElems.Trod_stays laidOut rec2 lt2 h2 (fun x hx => hb.same (hlt x (by simp [hx]))) (fun x hx => hsp x (by simp [hx]))) (trodAll_mk0)))) (fun _ _ => rfl) rfl hb (ok_one (by kernel_rfl) rfl (okWide_bool_mk Try.underlying4 _))⟩
noncomputable def laidWorld (os : Os) : World := World.holding Try.prog os ⟨#[], #[], []⟩
theorem laid_met (os : Os) : laidMet Try.prog Rows.traceFollowsCalendarUptoRow.laid ((laidWorld os).forCall (fun _ _ => 0) ⟨#[], #[.agg #[.int .i64 0, .int .i64 0, .int .i64 0, .int .i64 0, .slice none 0 0], .agg #[.int .i64 0, .slice none 0 0], .agg #[.int .i64 0, .int .i64 0]], []⟩).memory :=
  laidMet_of_run' 8 (by kernel_rfl) (by kernel_rfl)
theorem reads (os : Os) {H : Type} (enc : TypeId × Value → H) : ∃ places, DataW.whole enc Try.prog ((laidWorld os).forCall (fun _ _ => 0) ⟨#[], #[.agg #[.int .i64 0, .int .i64 0, .int .i64 0, .int .i64 0, .slice none 0 0], .agg #[.int .i64 0, .slice none 0 0], .agg #[.int .i64 0, .int .i64 0]], []⟩).memory Try.f15.params.toList Rows.traceFollowsCalendarSpec.vars false (#[.agg #[.int .i64 0, .int .i64 0, .int .i64 0, .int .i64 0, .slice none 0 0], .agg #[.int .i64 0, .slice none 0 0], .agg #[.int .i64 0, .int .i64 0]] : Array Value).toList 8 = some ([.agg [.lit (.int .i64 0), .lit (.int .i64 0), .lit (.int .i64 0), .lit (.int .i64 0), .nil], .agg [.lit (.int .i64 0), .nil], .agg [.lit (.int .i64 0), .lit (.int .i64 0)]], [], places) :=
  ⟨[], by kernel_rfl⟩
theorem liftedUpto (os : Os) (started : os.Started) (H : Type) (enc : TypeId × Value → H) (F : Stop.Interp) :
    ReturnsInHanded {} Try.checked os 15 .any ((Rows.OpenSpec.upto Rows.traceFollowsCalendarSpec).preRow enc Try.prog Try.f15 Rows.traceFollowsCalendarUptoRow.domain false Rows.traceFollowsCalendarUptoRow.laid) (((Rows.OpenSpec.upto Rows.traceFollowsCalendarSpec).at F).post enc Try.prog Try.f15 false true false false) := by
  obtain ⟨places, hx⟩ := reads os enc
  refine returnsInHanded_of_row (C := Try.checked) (s := Rows.OpenSpec.upto Rows.traceFollowsCalendarSpec) own started (by kernel_rfl) Try.func15
    (witness_row_at (enc := enc) (C := Try.checked) false (laidWorld os) #[.agg #[.int .i64 0, .int .i64 0, .int .i64 0, .int .i64 0, .slice none 0 0], .agg #[.int .i64 0, .slice none 0 0], .agg #[.int .i64 0, .int .i64 0]] rfl (by kernel_rfl) (by kernel_rfl) (by kernel_rfl)
      (OpenSpec.preRow_of_cond 8 hx (by kernel_rfl) (fun k hk => by cases hk; kernel_rfl) (by kernel_rfl) (laid_met os))) ?_
  intro W base args ds gs before hval hW _ hcond _ hL _ _
  exact contract H enc W base args ds gs before hval hW (hcond _ rfl) hL
theorem saidUpto : Rows.TraceFollowsCalendarUptoSaid :=
  OpenClaim.holds_of_cond 15 Try.f15 rfl rfl rfl rfl rfl rfl rfl ⟨rfl, rfl, rfl, rfl, rfl⟩ rfl rfl rfl rfl rfl (by kernel_rfl) Try.func15 (by kernel_rfl)
    (of_decide_eq_true (by kernel_rfl)) (by unfold Func.isWrapper; first | (rw [if_pos (by decide +kernel)]; kernel_rfl) | (rw [if_neg (by decide +kernel)]; exact ⟨rfl, rfl⟩))
    (fun os started H enc _ F => by rw [OpenClaim.pre_eq_preRow]; exact liftedUpto os started H enc F)

end Cd.traceFollowsCalendar
theorem traceFollowsCalendar_holds : Rows.TraceFollowsCalendarUptoSaid := Cd.traceFollowsCalendar.saidUpto
end Go.Proofs.Ytgljcfnplkcfhaa

/- quietus/quietuslaw28.RoundDecidesAsSpecified returns true for every input that fits the given statement of the second form (at most 1048576 values and letters), and its arguments read afterwards as before. Condition: the package variable that the row lists holds what its initialiser lays (tied by the given card). -/
import Derived.Test.YtpfehhcljeagoaaDoorS5
set_option linter.unusedVariables false
set_option linter.unusedSimpArgs false
namespace Go.Proofs.YtpfehhcljeagoaaDoor
open Go Go.Proofs.YtpfehhcljeagoaaDoor.Vc Go.Proofs Go.Proofs.YtpfehhcljeagoaaDoor.S28 Go.Proofs.YtpfehhcljeagoaaDoor.S28c Go.ChangeShapes Go.WideShapes Go.ChangeAt Go.RowKit
set_option maxRecDepth 100000
set_option linter.unusedVariables false
namespace Cd.roundDecidesAsSpecified
open Go.Proofs.YtpfehhcljeagoaaDoor.Cd
theorem deep0 : Deep Tryd.prog (.cons (.sl (.int .i64)) (.cons (.int .i64) (.cons (.int .i64) (.cons (.int .i64) (.cons (.int .i64) (.cons (.int .i64) .nil)))))) (.inl 24) := ⟨_, _, _, Tryd.underlying24, rfl, by kernel_rfl, by kernel_rfl, by kernel_rfl, ⟨3, Tryd.underlying22, by kernel_rfl, by decide, Tryd.underlying3⟩, ⟨by kernel_rfl, by kernel_rfl, Tryd.underlying3, ⟨by kernel_rfl, by kernel_rfl, Tryd.underlying3, ⟨by kernel_rfl, by kernel_rfl, Tryd.underlying3, ⟨by kernel_rfl, by kernel_rfl, Tryd.underlying3, ⟨by kernel_rfl, by kernel_rfl, Tryd.underlying3, trivial⟩⟩⟩⟩⟩⟩
theorem rec0 : Tryd.prog.readableRec 24 = true := by kernel_rfl
theorem lt0 : 24 < Tryd.prog.types.size := of_decide_eq_true (by kernel_rfl)
theorem deep1 : Deep Tryd.prog (.sl (.cons (.int .i64) (.cons (.sl (.int .i64)) .nil))) (.inl 25) := ⟨54, Tryd.underlying25, by kernel_rfl, by decide, ⟨_, _, _, Tryd.underlying54, rfl, by kernel_rfl, by kernel_rfl, by kernel_rfl, Tryd.underlying3, ⟨by kernel_rfl, by kernel_rfl, ⟨3, Tryd.underlying22, by kernel_rfl, by decide, Tryd.underlying3⟩, trivial⟩⟩⟩
theorem rec1 : Tryd.prog.readableRec 25 = true := by kernel_rfl
theorem lt1 : 25 < Tryd.prog.types.size := of_decide_eq_true (by kernel_rfl)
theorem globs {W : World} (h : laidMetH Tryd.prog Rows.roundDecidesAsSpecifiedUptoRow.laid W) : ∀ g x, lk G6 g = some x → VRel (c0 W) [] W x (.pointer (some ⟨g, 0, none⟩)) := fun g x hx => by
 have hg : Tryd.prog.globalNamed "quietus/gf.high" = some 0 := by kernel_rfl
 have ht : Lib.TabIs Tryd.prog W "quietus/gf.high" .u8 [0, 29, 58, 39, 116, 105, 78, 83, 232, 245, 210, 207, 156, 129, 166, 187] := Lib.tabIs_of_head (rest := []) hg (by kernel_rfl) Tryd.underlying126 Tryd.underlying5 (by kernel_rfl) (by kernel_rfl) h
 have key : ∀ i, i < 16 → ([0, 29, 58, 39, 116, 105, 78, 83, 232, 245, 210, 207, 156, 129, 166, 187] : List Int).getD i 0 = ((hi.getD i 0).toNat : Int) := by decide
 have hc : ∀ i, i < hi.length → W.cell? ⟨0, i, none⟩ = some (.int .u8 ((hi.getD i 0).toNat : Int)) := fun i hi' => by
  have := ht.cell hg i hi'
  rwa [key i hi'] at this
 unfold G6 lk at hx
 cases hb : Nat.beq 0 g with
 | false => rw [hb] at hx; simp [lk] at hx
 | true =>
  rw [hb] at hx
  simp only [cond_true, Option.some.injEq] at hx
  have := beq_ok hb
  subst this hx
  exact tab_ok (spot_none (hc 0 (by decide))).2 hc rfl
theorem contract (H : Type) (enc : TypeId × Value → H) (W : World) (base : Nat) (args : Array Value) (ds gs : List (DataW H)) (before : List MemPlace)
  (hval : ∀ (j : Nat) t v, Tryd.f3.params[j]? = some t → args[j]? = some v → Value.okWide Tryd.prog W .any base t v)
  (hW : DataW.Whole enc Tryd.prog Tryd.f3.params.toList Rows.roundDecidesAsSpecifiedSpec.vars false W args.toList ds gs before) (hc : Rows.uptoSmall H (ds ++ gs) = true) (hL : laidMetH Tryd.prog Rows.roundDecidesAsSpecifiedUptoRow.laid W) :
  Calls Tryd.prog 3 args W fun e W' => ∃ v, e = .returned v ∧ Rows.roundDecidesAsSpecifiedSpec.post enc Tryd.prog Tryd.f3 false true false false W args v W' := by
 have hW' := hW
 obtain ⟨p, q, hA0, hV, rfl, hfz, hnd⟩ := hW
 have hA : DataW.TrodAll enc Tryd.prog W 0 (fun _ => true) true Tryd.f3.params.toList args.toList ds p := hA0
 rw [Tryd.params3] at hA hval
 obtain ⟨v0, vs0, d0, ds0, p0, q0, hargs, rfl, rfl, h0, r0⟩ := trodAll_cons hA
 obtain ⟨v1, vs1, d1, ds1, p1, q1, rfl, rfl, rfl, h1, r1⟩ := trodAll_cons r0
 obtain ⟨rfl, rfl, rfl⟩ := trodAll_nil r1
 obtain rfl : args = #[v0, v1] := by cases args; simp_all
 obtain ⟨rfl, rfl⟩ := trodVars_none hV
 obtain ⟨x0, rel0, w0, wf0⟩ := arg_ok (bk := Rows.uptoBulk) bulk deep0 (hval 0 24 v0 rfl rfl) h0
 obtain ⟨x1, rel1, w1, wf1⟩ := arg_ok (bk := Rows.uptoBulk) bulk deep1 (hval 1 25 v1 rfl rfl) h1
 have hsum : Rows.uptoBulkAll [d0, d1] ≤ 1048576 := by simpa [Rows.uptoSmall] using hc
 simp only [Rows.uptoBulkAll] at hsum
 have hlt : ∀ x ∈ p0 ++ p1, x.block < W.heap.size := fun x hx => by simpa using hW'.lt x (by simpa using hx)
 refine (law_ok kSan rfl Tryd.func3 (.cons _ _ _ _ rel0 (.cons _ _ _ _ rel1 (VRels.nil))) (globs hL) (bLDec x0.1 x0.2.1 x0.2.2.1 x0.2.2.2.1 x0.2.2.2.2.1 x0.2.2.2.2.2.1 x1 (by have e := wt_task x0; have e2 := wt_is x0.1; omega) (by have e := (wt_posts x1).1; omega) (fun p hp => by have e := (wt_posts x1).2 p hp; omega))).mono fun e W' ⟨he, hb⟩ => ?_
 subst he
 exact ⟨_, rfl, post_same (pa := (p0 ++ (p1 ++ []))) (pv := []) hW' (fun _ _ _ => trodAll_cons_mk (shut_bool Tryd.underlying4 _) trodAll_mk0) (fun sp hsp => trodAll_cons_mk (WideElems.Trod_stays laidOut rec0 lt0 h0 (fun x hx => hb.same (hlt x (by simp [hx]))) (fun x hx => hsp x (by simp [hx]))) (trodAll_cons_mk (WideElems.Trod_stays laidOut rec1 lt1 h1 (fun x hx => hb.same (hlt x (by simp [hx]))) (fun x hx => hsp x (by simp [hx]))) (trodAll_mk0))) (fun _ _ => rfl) rfl hb (ok_one (by kernel_rfl) rfl (okWide_bool_mk Tryd.underlying4 _))⟩
noncomputable def laidWorld (os : Os) : World :=
 {World.holding Tryd.prog os ⟨#[], #[], []⟩ with heap := (World.holding Tryd.prog os ⟨#[], #[], []⟩).heap.modify 0 fun
   | .cells _ t frozen => .cells #[.int .u8 0, .int .u8 29, .int .u8 58, .int .u8 39, .int .u8 116, .int .u8 105, .int .u8 78, .int .u8 83, .int .u8 232, .int .u8 245, .int .u8 210, .int .u8 207, .int .u8 156, .int .u8 129, .int .u8 166, .int .u8 187] t frozen
   | o => o }
theorem laid_met (os : Os) : laidMet Tryd.prog Rows.roundDecidesAsSpecifiedUptoRow.laid ((laidWorld os).forCall (fun _ _ => 0) ⟨#[], #[.agg #[.slice none 0 0, .int .i64 0, .int .i64 0, .int .i64 0, .int .i64 0, .int .i64 0], .slice none 0 0], []⟩).memory :=
 laidMet_of_run' 8 (by kernel_rfl) (by kernel_rfl)
theorem reads (os : Os) {H : Type} (enc : TypeId × Value → H) : ∃ places, DataW.whole enc Tryd.prog ((laidWorld os).forCall (fun _ _ => 0) ⟨#[], #[.agg #[.slice none 0 0, .int .i64 0, .int .i64 0, .int .i64 0, .int .i64 0, .int .i64 0], .slice none 0 0], []⟩).memory Tryd.f3.params.toList Rows.roundDecidesAsSpecifiedSpec.vars false (#[.agg #[.slice none 0 0, .int .i64 0, .int .i64 0, .int .i64 0, .int .i64 0, .int .i64 0], .slice none 0 0] : Array Value).toList 8 = some ([.agg [.nil, .lit (.int .i64 0), .lit (.int .i64 0), .lit (.int .i64 0), .lit (.int .i64 0), .lit (.int .i64 0)], .nil], [], places) :=
 ⟨[], by kernel_rfl⟩
theorem liftedUpto (os : Os) (started : os.Started) (H : Type) (enc : TypeId × Value → H) (F : Stop.Interp) :
  ReturnsInHanded {} Tryd.checked os 3 .any ((Rows.OpenSpec.upto Rows.roundDecidesAsSpecifiedSpec).preRow enc Tryd.prog Tryd.f3 Rows.roundDecidesAsSpecifiedUptoRow.domain false Rows.roundDecidesAsSpecifiedUptoRow.laid) (((Rows.OpenSpec.upto Rows.roundDecidesAsSpecifiedSpec).at F).post enc Tryd.prog Tryd.f3 false true false false) := by
 obtain ⟨places, hx⟩ := reads os enc
 refine returnsInHanded_of_row (C := Tryd.checked) (s := Rows.OpenSpec.upto Rows.roundDecidesAsSpecifiedSpec) own started (by kernel_rfl) Tryd.func3
  (witness_row_at (enc := enc) (C := Tryd.checked) false (laidWorld os) #[.agg #[.slice none 0 0, .int .i64 0, .int .i64 0, .int .i64 0, .int .i64 0, .int .i64 0], .slice none 0 0] rfl (by kernel_rfl) (by kernel_rfl) (by kernel_rfl)
   (OpenSpec.preRow_of_cond 8 hx (by kernel_rfl) (fun k hk => by cases hk; kernel_rfl) (by kernel_rfl) (laid_met os))) ?_
 intro W base args ds gs before hval hW _ hcond _ hL _ _
 exact contract H enc W base args ds gs before hval hW (hcond _ rfl) hL
theorem saidUpto : Rows.RoundDecidesAsSpecifiedUptoSaid :=
 OpenClaim.holds_of_cond 3 Tryd.f3 rfl rfl rfl rfl rfl rfl rfl ⟨rfl, rfl, rfl, rfl, rfl⟩ rfl rfl rfl rfl rfl (by kernel_rfl) Tryd.func3 (by kernel_rfl)
  (of_decide_eq_true (by kernel_rfl)) (by unfold Func.isWrapper; first | (rw [if_pos (by decide +kernel)]; kernel_rfl) | (rw [if_neg (by decide +kernel)]; exact ⟨rfl, rfl⟩))
  (fun os started H enc _ F => by rw [OpenClaim.pre_eq_preRow]; exact liftedUpto os started H enc F)
theorem plain (f : FuncId) (fn : Func) (hf : Tryd.pinned.checked.prog.funcNamed "quietus/quietuslaw28.RoundDecidesAsSpecified" = some f) (hfn : Tryd.pinned.checked.prog.funcs[f]? = some fn) :
  false = Tryd.pinned.checked.prog.looks [] ∧ ∀ (j : Nat) t, fn.params[j]? = some t → Tryd.pinned.checked.prog.wantsStandIn t = false := by
 obtain rfl : f = 3 := Option.some.inj ((show Tryd.prog.funcNamed "quietus/quietuslaw28.RoundDecidesAsSpecified" = some 3 by kernel_rfl).symm.trans hf) |>.symm
 obtain rfl : fn = Tryd.f3 := (Option.some.inj (Tryd.func3.symm.trans hfn)).symm
 refine ⟨by kernel_rfl, fun j t ht => ?_⟩
 rw [Tryd.params3] at ht
 have hm := Array.mem_of_getElem? ht
 simp only [List.mem_toArray, List.mem_cons, List.not_mem_nil, or_false] at hm
 rcases hm with rfl | rfl
 ·exact (show Tryd.prog.wantsStandIn 24 = false by kernel_rfl)
 ·exact (show Tryd.prog.wantsStandIn 25 = false by kernel_rfl)
theorem cardUpto : Rows.RoundDecidesAsSpecifiedUptoCardSaid :=
 Claim7.holds_tied_plain_at .later [] _ _ _ _ saidUpto (fun _ h => by cases h) (by kernel_rfl) (fun _ h => by cases h) roundDecidesAsSpecifiedUpto_row_tie rfl ⟨rfl, rfl⟩ (by kernel_rfl) rfl plain (by kernel_rfl)
end Cd.roundDecidesAsSpecified
theorem roundDecidesAsSpecified_holds : Rows.RoundDecidesAsSpecifiedUptoCardSaid := Cd.roundDecidesAsSpecified.cardUpto
end Go.Proofs.YtpfehhcljeagoaaDoor

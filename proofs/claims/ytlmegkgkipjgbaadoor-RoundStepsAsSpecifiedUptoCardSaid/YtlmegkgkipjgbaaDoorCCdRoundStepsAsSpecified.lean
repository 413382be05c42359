/- quietus/quietuslaw28.RoundStepsAsSpecified returns true for every input that fits the given statement of the second form (at most 1048576 values and letters), and its arguments read afterwards as before. Condition: the package variable that the row lists holds what its initialiser lays (tied by the given card). -/
import Derived.Test.YtlmegkgkipjgbaaDoorS7
set_option linter.unusedVariables false
set_option linter.unusedSimpArgs false
namespace Go.Proofs.YtlmegkgkipjgbaaDoor
set_option maxHeartbeats 20000000
open Go Go.Proofs.YtlmegkgkipjgbaaDoor.Vc Go.Proofs Go.Proofs.YtlmegkgkipjgbaaDoor.S33 Go.Proofs.YtlmegkgkipjgbaaDoor.S33c Go.ChangeShapes Go.WideShapes Go.ChangeAt Go.RowKit
set_option maxRecDepth 100000
set_option linter.unusedVariables false
section
namespace Cd.roundStepsAsSpecified
open Go.Proofs.YtlmegkgkipjgbaaDoor.Cd
theorem deep0:Deep Tryd.prog (.cons (.sl (.int .i64)) (.cons (.int .i64) (.cons (.int .i64) (.cons (.int .i64) (.cons (.int .i64) (.cons (.int .i64) .nil)))))) (.inl 24):=⟨_,_,_,Tryd.underlying24,rfl,by kernel_rfl,by kernel_rfl,by kernel_rfl,⟨3,Tryd.underlying22,by kernel_rfl,by decide,Tryd.underlying3⟩,⟨by kernel_rfl,by kernel_rfl,Tryd.underlying3,⟨by kernel_rfl,by kernel_rfl,Tryd.underlying3,⟨by kernel_rfl,by kernel_rfl,Tryd.underlying3,⟨by kernel_rfl,by kernel_rfl,Tryd.underlying3,⟨by kernel_rfl,by kernel_rfl,Tryd.underlying3,trivial⟩⟩⟩⟩⟩⟩
theorem rec0:Tryd.prog.readableRec 24=true:=by kernel_rfl
theorem lt0:24<Tryd.prog.types.size:=of_decide_eq_true (by kernel_rfl)
theorem deep1:Deep Tryd.prog (.int .i64) (.inl 3):=Tryd.underlying3
theorem rec1:Tryd.prog.readableRec 3=true:=by kernel_rfl
theorem lt1:3<Tryd.prog.types.size:=of_decide_eq_true (by kernel_rfl)
theorem deep2:Deep Tryd.prog (.arr 2 .str) (.inl 25):=⟨9,Tryd.underlying25,by kernel_rfl,by kernel_rfl,Tryd.underlying9⟩
theorem rec2:Tryd.prog.readableRec 25=true:=by kernel_rfl
theorem lt2:25<Tryd.prog.types.size:=of_decide_eq_true (by kernel_rfl)
theorem deep3:Deep Tryd.prog (.sl (.cons (.cons (.int .i64) (.cons (.int .i64) (.cons (.int .i64) (.cons (.int .i64) (.cons (.sl .str) .nil))))) (.cons (.int .i64) .nil))) (.inl 26):=⟨48,Tryd.underlying26,by kernel_rfl,by decide,⟨_,_,_,Tryd.underlying48,rfl,by kernel_rfl,by kernel_rfl,by kernel_rfl,⟨_,_,_,Tryd.underlying46,rfl,by kernel_rfl,by kernel_rfl,by kernel_rfl,Tryd.underlying3,⟨by kernel_rfl,by kernel_rfl,Tryd.underlying3,⟨by kernel_rfl,by kernel_rfl,Tryd.underlying3,⟨by kernel_rfl,by kernel_rfl,Tryd.underlying3,⟨by kernel_rfl,by kernel_rfl,⟨9,Tryd.underlying44,by kernel_rfl,by decide,Tryd.underlying9⟩,trivial⟩⟩⟩⟩⟩,⟨by kernel_rfl,by kernel_rfl,Tryd.underlying3,trivial⟩⟩⟩
theorem rec3:Tryd.prog.readableRec 26=true:=by kernel_rfl
theorem lt3:26<Tryd.prog.types.size:=of_decide_eq_true (by kernel_rfl)
theorem deep4:Deep Tryd.prog (.sl (.cons (.int .i64) (.cons (.sl (.int .i64)) .nil))) (.inl 27):=⟨51,Tryd.underlying27,by kernel_rfl,by decide,⟨_,_,_,Tryd.underlying51,rfl,by kernel_rfl,by kernel_rfl,by kernel_rfl,Tryd.underlying3,⟨by kernel_rfl,by kernel_rfl,⟨3,Tryd.underlying22,by kernel_rfl,by decide,Tryd.underlying3⟩,trivial⟩⟩⟩
theorem rec4:Tryd.prog.readableRec 27=true:=by kernel_rfl
theorem lt4:27<Tryd.prog.types.size:=of_decide_eq_true (by kernel_rfl)
theorem globs {W:World} (h:laidMetH Tryd.prog Rows.roundStepsAsSpecifiedUptoRow.laid W):∀g x,lk G6 g=some x→VRel (c0 W) [] W x (.pointer (some ⟨g,0,none⟩)):=fun g x hx=>by
 have hg:Tryd.prog.globalNamed "quietus/gf.high" =some 0:=by kernel_rfl
 have ht:Lib.TabIs Tryd.prog W "quietus/gf.high" .u8 [0,29,58,39,116,105,78,83,232,245,210,207,156,129,166,187]:=Lib.tabIs_of_head (rest:= []) hg (by kernel_rfl) Tryd.underlying191 Tryd.underlying5 (by kernel_rfl) (by kernel_rfl) h
 have key:∀i,i<16→([0,29,58,39,116,105,78,83,232,245,210,207,156,129,166,187]:List Int).getD i 0=((hi.getD i 0).toNat:Int):=by decide
 have hc:∀i,i<hi.length→W.cell? ⟨0,i,none⟩=some (.int .u8 ((hi.getD i 0).toNat:Int)):=fun i hi'=>by
  have:=ht.cell hg i hi'
  rwa [key i hi'] at this
 unfold G6 lk at hx
 cases hb:Nat.beq 0 g with
 |false=>rw [hb] at hx;simp [lk] at hx
 |true=>
  rw [hb] at hx
  simp only [cond_true,Option.some.injEq] at hx
  have:=beq_ok hb
  subst this hx
  exact tab_ok (spot_none (hc 0 (by decide))).2 hc rfl
theorem contract (H:Type) (enc:TypeId×Value→H) (W:World) (base:Nat) (args:Array Value) (ds gs:List (DataW H)) (before:List MemPlace)
  (hval:∀(j:Nat) t v,Tryd.f3.params[j]? =some t→args[j]? =some v→Value.okWide Tryd.prog W .any base t v)
  (hW:DataW.Whole enc Tryd.prog Tryd.f3.params.toList Rows.roundStepsAsSpecifiedSpec.vars false W args.toList ds gs before) (hc:Rows.uptoSmall H (ds++gs)=true) (hL:laidMetH Tryd.prog Rows.roundStepsAsSpecifiedUptoRow.laid W):
  Calls Tryd.prog 3 args W fun e W'=>∃v,e= .returned v∧Rows.roundStepsAsSpecifiedSpec.post enc Tryd.prog Tryd.f3 false true false false W args v W':=by
 have hW':=hW
 obtain⟨p,q,hA0,hV,rfl,hfz,hnd⟩:=hW
 have hA:DataW.TrodAll enc Tryd.prog W 0 (fun _=>true) true Tryd.f3.params.toList args.toList ds p:=hA0
 rw [Tryd.params3] at hA hval
 obtain⟨v0,vs0,d0,ds0,p0,q0,hargs,rfl,rfl,h0,r0⟩:=trodAll_cons hA
 obtain⟨v1,vs1,d1,ds1,p1,q1,rfl,rfl,rfl,h1,r1⟩:=trodAll_cons r0
 obtain⟨v2,vs2,d2,ds2,p2,q2,rfl,rfl,rfl,h2,r2⟩:=trodAll_cons r1
 obtain⟨v3,vs3,d3,ds3,p3,q3,rfl,rfl,rfl,h3,r3⟩:=trodAll_cons r2
 obtain⟨v4,vs4,d4,ds4,p4,q4,rfl,rfl,rfl,h4,r4⟩:=trodAll_cons r3
 obtain⟨rfl,rfl,rfl⟩:=trodAll_nil r4
 obtain rfl:args= #[v0,v1,v2,v3,v4]:=by cases args;simp_all
 obtain⟨rfl,rfl⟩:=trodVars_none hV
 obtain⟨x0,rel0,w0,wf0⟩:=arg_ok (bk:=Rows.uptoBulk) bulk deep0 (hval 0 24 v0 rfl rfl) h0
 obtain⟨x1,rel1,w1,wf1⟩:=arg_ok (bk:=Rows.uptoBulk) bulk deep1 (hval 1 3 v1 rfl rfl) h1
 obtain⟨x2,rel2,w2,wf2⟩:=arg_ok (bk:=Rows.uptoBulk) bulk deep2 (hval 2 25 v2 rfl rfl) h2
 obtain⟨x3,rel3,w3,wf3⟩:=arg_ok (bk:=Rows.uptoBulk) bulk deep3 (hval 3 26 v3 rfl rfl) h3
 obtain⟨x4,rel4,w4,wf4⟩:=arg_ok (bk:=Rows.uptoBulk) bulk deep4 (hval 4 27 v4 rfl rfl) h4
 have hsum:Rows.uptoBulkAll [d0,d1,d2,d3,d4]≤1048576:=by simpa [Rows.uptoSmall] using hc
 simp only [Rows.uptoBulkAll] at hsum
 have hlt:∀x∈p0++p1++p2++p3++p4,x.block<W.heap.size:=fun x hx=>by simpa using hW'.lt x (by simpa using hx)
 refine(law_ok kSan rfl Tryd.func3 (.cons _ _ _ _ rel0 (.cons _ _ _ _ rel1 (.cons _ _ _ _ rel2 (.cons _ _ _ _ rel3 (.cons _ _ _ _ rel4 (VRels.nil)))))) (globs hL) (bLStp x0.1 x0.2.1 x0.2.2.1 x0.2.2.2.1 x0.2.2.2.2.1 x0.2.2.2.2.2.1 x1 x2 x3 x4 (by have e:=wt_task x0;have e2:=wt_is x0.1;omega) wf2.1 (fun s hs=>by have e:=wt_arr (n:=2) hs;omega) (by have e:=(wt_sents x3).1;omega) (fun p hp=>by have e:=(wt_sents x3).2 p hp;omega) (by have e:=(wt_posts x4).1;omega) (fun p hp=>by have e:=(wt_posts x4).2 p hp;omega))).mono fun e W' ⟨he,hb⟩=> ?_
 subst he
 exact⟨_,rfl,post_same (pa:=(p0++(p1++(p2++(p3++(p4++ [])))))) (pv:= []) hW' (fun _ _ _=>trodAll_cons_mk (shut_bool Tryd.underlying4 _) trodAll_mk0) (fun sp hsp=>trodAll_cons_mk (WideElems.Trod_stays laidOut rec0 lt0 h0 (fun x hx=>hb.same (hlt x (by simp [hx]))) (fun x hx=>hsp x (by simp [hx]))) (trodAll_cons_mk (WideElems.Trod_stays laidOut rec1 lt1 h1 (fun x hx=>hb.same (hlt x (by simp [hx]))) (fun x hx=>hsp x (by simp [hx]))) (trodAll_cons_mk (WideElems.Trod_stays laidOut rec2 lt2 h2 (fun x hx=>hb.same (hlt x (by simp [hx]))) (fun x hx=>hsp x (by simp [hx]))) (trodAll_cons_mk (WideElems.Trod_stays laidOut rec3 lt3 h3 (fun x hx=>hb.same (hlt x (by simp [hx]))) (fun x hx=>hsp x (by simp [hx]))) (trodAll_cons_mk (WideElems.Trod_stays laidOut rec4 lt4 h4 (fun x hx=>hb.same (hlt x (by simp [hx]))) (fun x hx=>hsp x (by simp [hx]))) (trodAll_mk0)))))) (fun _ _=>rfl) rfl hb (ok_one (by kernel_rfl) rfl (okWide_bool_mk Tryd.underlying4 _))⟩
noncomputable def laidWorld (os:Os):World:=
 {World.holding Tryd.prog os ⟨#[],#[], []⟩ with heap:=(World.holding Tryd.prog os ⟨#[],#[], []⟩).heap.modify 0 fun
   |.cells _ t frozen=> .cells #[.int .u8 0,.int .u8 29,.int .u8 58,.int .u8 39,.int .u8 116,.int .u8 105,.int .u8 78,.int .u8 83,.int .u8 232,.int .u8 245,.int .u8 210,.int .u8 207,.int .u8 156,.int .u8 129,.int .u8 166,.int .u8 187] t frozen
   |o=>o}
theorem laid_met (os:Os):laidMet Tryd.prog Rows.roundStepsAsSpecifiedUptoRow.laid ((laidWorld os).forCall (fun _ _=>0) ⟨#[],#[.agg #[.slice none 0 0,.int .i64 0,.int .i64 0,.int .i64 0,.int .i64 0,.int .i64 0],.int .i64 0,.agg #[.string ⟨#[]⟩,.string ⟨#[]⟩],.slice none 0 0,.slice none 0 0], []⟩).memory:=
 laidMet_of_run' 8 (by kernel_rfl) (by kernel_rfl)
theorem reads (os:Os) {H:Type} (enc:TypeId×Value→H):∃places,DataW.whole enc Tryd.prog ((laidWorld os).forCall (fun _ _=>0) ⟨#[],#[.agg #[.slice none 0 0,.int .i64 0,.int .i64 0,.int .i64 0,.int .i64 0,.int .i64 0],.int .i64 0,.agg #[.string ⟨#[]⟩,.string ⟨#[]⟩],.slice none 0 0,.slice none 0 0], []⟩).memory Tryd.f3.params.toList Rows.roundStepsAsSpecifiedSpec.vars false (#[.agg #[.slice none 0 0,.int .i64 0,.int .i64 0,.int .i64 0,.int .i64 0,.int .i64 0],.int .i64 0,.agg #[.string ⟨#[]⟩,.string ⟨#[]⟩],.slice none 0 0,.slice none 0 0]:Array Value).toList 8=some ([.agg [.nil,.lit (.int .i64 0),.lit (.int .i64 0),.lit (.int .i64 0),.lit (.int .i64 0),.lit (.int .i64 0)],.lit (.int .i64 0),.agg [.lit (.string []),.lit (.string [])],.nil,.nil], [],places):=
 ⟨[],by kernel_rfl⟩
theorem liftedUpto (os:Os) (started:os.Started) (H:Type) (enc:TypeId×Value→H) (F:Stop.Interp):
  ReturnsInHanded {} Tryd.checked os 3 .any ((Rows.OpenSpec.upto Rows.roundStepsAsSpecifiedSpec).preRow enc Tryd.prog Tryd.f3 Rows.roundStepsAsSpecifiedUptoRow.domain false Rows.roundStepsAsSpecifiedUptoRow.laid) (((Rows.OpenSpec.upto Rows.roundStepsAsSpecifiedSpec).at F).post enc Tryd.prog Tryd.f3 false true false false):=by
 obtain⟨places,hx⟩:=reads os enc
 refine returnsInHanded_of_row (C:=Tryd.checked) (s:=Rows.OpenSpec.upto Rows.roundStepsAsSpecifiedSpec) own started (by kernel_rfl) Tryd.func3
  (witness_row_at (enc:=enc) (C:=Tryd.checked) false (laidWorld os) #[.agg #[.slice none 0 0,.int .i64 0,.int .i64 0,.int .i64 0,.int .i64 0,.int .i64 0],.int .i64 0,.agg #[.string ⟨#[]⟩,.string ⟨#[]⟩],.slice none 0 0,.slice none 0 0] rfl (by kernel_rfl) (by kernel_rfl) (by kernel_rfl)
   (OpenSpec.preRow_of_cond 8 hx (by kernel_rfl) (fun k hk=>by cases hk;kernel_rfl) (by kernel_rfl) (laid_met os))) ?_
 intro W base args ds gs before hval hW _ hcond _ hL _ _
 exact contract H enc W base args ds gs before hval hW (hcond _ rfl) hL
theorem saidUpto:Rows.RoundStepsAsSpecifiedUptoSaid:=
 OpenClaim.holds_of_cond 3 Tryd.f3 rfl rfl rfl rfl rfl rfl rfl ⟨rfl,rfl,rfl,rfl,rfl⟩ rfl rfl rfl rfl rfl (by kernel_rfl) Tryd.func3 (by kernel_rfl)
  (of_decide_eq_true (by kernel_rfl)) (by unfold Func.isWrapper;first|(rw [if_pos (by decide+kernel)];kernel_rfl)|(rw [if_neg (by decide+kernel)];exact⟨rfl,rfl⟩))
  (fun os started H enc _ F=>by rw [OpenClaim.pre_eq_preRow];exact liftedUpto os started H enc F)
theorem plain (f:FuncId) (fn:Func) (hf:Tryd.pinned.checked.prog.funcNamed "quietus/quietuslaw28.RoundStepsAsSpecified" =some f) (hfn:Tryd.pinned.checked.prog.funcs[f]? =some fn):
  false=Tryd.pinned.checked.prog.looks []∧∀(j:Nat) t,fn.params[j]? =some t→Tryd.pinned.checked.prog.wantsStandIn t=false:=by
 obtain rfl:f=3:=Option.some.inj ((show Tryd.prog.funcNamed "quietus/quietuslaw28.RoundStepsAsSpecified" =some 3 by kernel_rfl).symm.trans hf)|>.symm
 obtain rfl:fn=Tryd.f3:=(Option.some.inj (Tryd.func3.symm.trans hfn)).symm
 refine⟨by kernel_rfl,fun j t ht=> ?_⟩
 rw [Tryd.params3] at ht
 have hm:=Array.mem_of_getElem? ht
 simp only [List.mem_toArray,List.mem_cons,List.not_mem_nil,or_false] at hm
 rcases hm with rfl|rfl|rfl|rfl|rfl
 ·exact(show Tryd.prog.wantsStandIn 24=false by kernel_rfl)
 ·exact(show Tryd.prog.wantsStandIn 3=false by kernel_rfl)
 ·exact(show Tryd.prog.wantsStandIn 25=false by kernel_rfl)
 ·exact(show Tryd.prog.wantsStandIn 26=false by kernel_rfl)
 ·exact(show Tryd.prog.wantsStandIn 27=false by kernel_rfl)
theorem cardUpto:Rows.RoundStepsAsSpecifiedUptoCardSaid:=
 Claim7.holds_tied_plain_at .later [] _ _ _ _ saidUpto (fun _ h=>by cases h) (by kernel_rfl) (fun _ h=>by cases h) roundStepsAsSpecifiedUpto_row_tie rfl ⟨rfl,rfl⟩ (by kernel_rfl) rfl plain (by kernel_rfl)
end Cd.roundStepsAsSpecified
theorem roundStepsAsSpecified_holds :Rows.RoundStepsAsSpecifiedUptoCardSaid:=Cd.roundStepsAsSpecified.cardUpto
end
end Go.Proofs.YtlmegkgkipjgbaaDoor

/- Texts of this claim. -/
import Derived.Test.YtlmegkgkipjgbaaDoorS3
import Derived.Test.YtlmegkgkipjgbaaDoorS1
set_option linter.unusedVariables false
set_option linter.unusedSimpArgs false
namespace Go.Proofs.YtlmegkgkipjgbaaDoor.S33c
set_option maxHeartbeats 20000000
open Go Go.Proofs.YtlmegkgkipjgbaaDoor.Vc Go.Proofs Go.Proofs.YtlmegkgkipjgbaaDoor.S33
set_option maxRecDepth 100000
theorem sorted_lt {hs:List Int} (hh:hsF (-1) hs=true) {a b:Nat} (hab:a<b) (hb:b<hs.length):hs.getD a 0<hs.getD b 0:=by
 refine(sorted_take hs (-1) b hh hb).2 _ ?_
 rw [gD (show a<hs.length by omega)]
 exact List.mem_take_iff_getElem.2 ⟨a,by omega,rfl⟩
theorem pow_le {x y:Int} (hx:0≤x) (hxy:x≤y):(2:Int)^x.toNat≤2^y.toNat:=by
 have h1:=Nat.pow_le_pow_right (n:=2) (by omega) (show x.toNat≤y.toNat by omega)
 have h2:((2^x.toNat:Nat):Int)≤((2^y.toNat:Nat):Int):=Int.ofNat_le.2 h1
 rw [Int.natCast_pow,Int.natCast_pow] at h2
 exact h2
theorem cl_eq {hs:List Int} {es:Ps} {k:Int} (hh:hsF (-1) hs=true) (hb:∀x∈hs,0≤x∧x<12) (hes:PsOk hs es) (hg:GetOk es):
  ∀(m i:Nat) (set more:Int),hs.length-i=m→i≤hs.length→0≤set→(∀j,i≤j→j<hs.length→set<2^(hs.getD j 0).toNat)→SetOk hs es set→
   cl es k (hs.drop i) set more=clR hs (ouL hs es k) (hs.length-i) set more
 |0,i,set,more,hm,hi,s0,sl,hp=>by
  rw [List.drop_eq_nil_of_le (by omega),hm,cl,clR]
 | m+1,i,set,more,hm,hi,s0,sl,hp=>by
  have hil:i<hs.length:=by omega
  by_cases h0:more=0
  ·subst h0;rw [cl_zero,clR_zero]
  have ih:=cl_eq (k:=k) hh hb hes hg m (i+1) set more (by omega) (by omega) s0 (fun j h1 h2=>sl j (by omega) h2) hp
  have hf:=fits_iff (k:=k) hb hes hg hil s0 hp
  obtain⟨g0,g1⟩:=hb _ (gmem 0 hs i hil)
  have e:=nxt_sum s0 g0 (sl i (Nat.le_refl _) hil)
  rw [drop_at hs i hil,cl,if_neg h0,clR_at hil h0]
  by_cases hfi:fits es k set (hs.getD i 0)
  ·rw [if_pos hfi,if_pos (hf.1 hfi)]
   have pp:(0:Int)<2^(hs.getD i 0).toNat:=Int.pow_pos (by omega)
   have ih2:=cl_eq (k:=k) hh hb hes hg m (i+1) (nxt set (hs.getD i 0)) (more-1) (by omega) (by omega) (by omega) (fun j h1 h2=>by
    have h3:=sorted_lt hh (show i<j by omega) h2
    have h4:=pow_le (show 0≤hs.getD i 0+1 by omega) (show hs.getD i 0+1≤hs.getD j 0 by omega)
    have h5:(2:Int)^(hs.getD i 0+1).toNat=2*2^(hs.getD i 0).toNat:=by rw [show(hs.getD i 0+1).toNat=(hs.getD i 0).toNat+1 by omega,Int.pow_succ,Int.mul_comm]
    have h6:=sl i (Nat.le_refl _) hil
    omega) (fun n hn=>by
    have e2:(nxt set (hs.getD i 0)).toNat=set.toNat|||2^(hs.getD i 0).toNat:=by unfold nxt;rw [Int.one_mul,pow_nat,Int.toNat_natCast]
    rw [e2,Nat.testBit_or,Nat.testBit_two_pow,Bool.or_eq_true,decide_eq_true_eq] at hn
    rcases hn with hn|hn
    ·exact hp n hn
    ·obtain⟨ag,h1,_⟩:=hfi
     exact⟨i,hil,hn,by rw [h1];rfl⟩)
   rw [ih2,ih,e]
  ·rw [if_neg hfi,if_neg fun h=>hfi (hf.2 h),ih]
theorem vd_eq {hs:List Int} {wr:Int} {es:Ps} (hh:hsF (-1) hs=true) (hb:∀x∈hs,0≤x∧x<12) (hes:PsOk hs es) (hg:GetOk es):∀k,vdL hs wr es k=rvL hs wr es k
 |0=>rfl
 |k+1=>by
  have e:=cl_eq (k:=(k:Int)) hh hb hes hg (hs.length-0) 0 0 ((hs.length:Int)-wr) rfl (by omega) (by omega) (fun j _ _=>Int.pow_pos (by omega)) (fun n hn=>by simp at hn)
  have e:cl es (k:Int) (hs.drop 0) 0 ((hs.length:Int)-wr)=clR hs (ouL hs es (k:Int)) (hs.length-Int.toNat 0) 0 ((hs.length:Int)-wr):=e
  rw [vdL,rvL,vd_eq hh hb hes hg k,vd1,rv1,e]
theorem dec_eq (hs:List Int) (nd wr sz st ph:Int) (l:List RP):decL hs nd wr sz st ph l=rdL hs nd wr sz st ph l:=by
 unfold decL rdL
 split
 ·rename_i h
  have hT:=tk0 h
  exact vd_eq hT.ho hT.hs12 (esL_ok hT.hs12 l [] fun e he=>by cases he) (esL_get hs l [] fun e he=>by cases he) _
 ·rfl
theorem take_next {α:Type} {d:α} {a b:List α} {k:Nat} (ha:k<a.length) (hb:k<b.length) (h:a.take k=b.take k) (he:a.getD k d=b.getD k d):a.take (k+1)=b.take (k+1):=by
 rw [List.take_succ_eq_append_getElem ha,List.take_succ_eq_append_getElem hb,h,←gD (d:=d) ha,←gD (d:=d) hb,he]
theorem take_done {α:Type} {a b:List α} {k:Nat} (hl:a.length=b.length) (hk:a.length≤k) (h:a.take k=b.take k):a=b:=by
 rw [List.take_of_length_le hk,List.take_of_length_le (by omega)] at h;exact h
theorem ixP_isG {α:Type} (p:α→Bool) {q:α→Prop} (l:List α) (h:∀i,p i=true↔q i):0≤ixP p l 0↔∃i∈l,q i:=by
 constructor
 ·intro g
  refine Classical.byContradiction fun hn=> ?_
  have:=(ixP_none (p:=p) (l:=l) (k:=0)).2 fun a ha=>by
   cases hp:p a with
   |false=>rfl
   |true=>exact absurd ⟨a,ha,(h a).1 hp⟩ hn
  omega
 ·rintro⟨i,hi,hq⟩
  refine Classical.byContradiction fun hn=> ?_
  have:=(ixP_none (p:=p) (l:=l) (k:=0)).1 (by omega) i hi
  rw [(h i).2 hq] at this;cases this
open Go Go.Proofs.YtlmegkgkipjgbaaDoor.Vc Go.Proofs
set_option linter.unusedVariables false
open Go.Proofs.YtlmegkgkipjgbaaDoor.S33
noncomputable def sSTx:List V→Option (Prop×V×List Blk)
 |[.sl false .str a,.sl false .str b]=>some (a.length≤1048576∧b.length≤1048576,.b (a=b), [])
 |_=>none
theorem bSTx (a b:List (List UInt8)):bodyQ (En CRDe tys G6 []) Tryd.f30 [.k] sSTx [.sl false .str a,.sl false .str b]:=by
 rintro⟨hp0,hp1⟩
 refine yn ((a.length:Int)≠(b.length:Int)) (fun h0=> ?_) fun h0=> ?_
 ·exact⟨rfl,rfl,congrArg V.b (propext ⟨fun h=>Bool.noConfusion h,fun h=>False.elim (h0 (by rw [h]))⟩),rfl⟩
 ·refine⟨0, [(0,.k),(1,.k),(5,.k)],fun nM vs H=>∃(k:Nat),k≤a.length∧a.take k=b.take k∧nM=a.length-k∧vs= [.sl false .str a,.sl false .str b,.i k]∧H= [],⟨rfl,a.length,0,by omega,rfl,by omega,rfl,rfl⟩,?_⟩
  rintro nM vs H ⟨k,hc1_0,hc1_1,rfl,rfl,rfl⟩
  refine yn ((k:Int)<(a.length:Int)) (fun h1=> ?_) fun h1=> ?_
  ·refine⟨by kernel_rfl,ix k a.length,ix k b.length,yn ((a.getD k [])≠(b.getD k [])) (fun h2=> ?_) fun h2=> ?_⟩
   ·exact⟨rfl,rfl,congrArg V.b (propext ⟨fun h=>Bool.noConfusion h,fun h=>False.elim (h2 (by rw [h]))⟩),rfl⟩
   ·have hnx:=take_next (d:= []) (show k<a.length by omega) (show k<b.length by omega) hc1_1 (nw h2)
    refine⟨r64 (k+1),?_⟩
    exact⟨rfl,a.length-(k+1),by omega,k+1,by omega,hnx,rfl,rfl,rfl⟩
  ·exact⟨rfl,rfl,congrArg V.b (propext ⟨fun _=>take_done (by omega) (by omega) hc1_1,fun _=>rfl⟩),rfl⟩
noncomputable def CSTx:List (Nat×Con):=(30,pureC [.v (.sl .str),.v (.sl .str)] sSTx)::CRDe
theorem kSTx:Known Tryd.prog (En CSTx tys G6 []):=kRDe.addQ Tryd.func30 Tryd.call30 [.k] fun ds _ _ _ h=>by unfold sSTx at h;split at h;exact bSTx _ _;cases h
noncomputable def sSMl:List V→Option (Prop×V×List Blk)
 |[.sl false (.cons (.int .i64) (.cons (.int .i64) (.cons (.int .i64) (.cons (.int .i64) (.cons (.sl .str) .nil))))) a,.sl false (.cons (.int .i64) (.cons (.int .i64) (.cons (.int .i64) (.cons (.int .i64) (.cons (.sl .str) .nil))))) b]=>some (a.length≤1048576∧b.length≤1048576∧(∀m∈a,m.2.2.2.2.1.length≤1048576)∧(∀m∈b,m.2.2.2.2.1.length≤1048576),.b (a=b), [])
 |_=>none
theorem bSMl (a:List (Int×(Int×(Int×(Int×(List (List UInt8)×Unit)))))) (b:List (Int×(Int×(Int×(Int×(List (List UInt8)×Unit)))))):bodyQ (En CSTx tys G6 []) Tryd.f12 [.k] sSMl [.sl false tMl a,.sl false tMl b]:=by
 rintro⟨hp0,hp1,(hp2:(∀m∈a,m.2.2.2.2.1.length≤1048576)),(hp3:(∀m∈b,m.2.2.2.2.1.length≤1048576))⟩
 refine yn ((a.length:Int)≠(b.length:Int)) (fun h0=> ?_) fun h0=> ?_
 ·exact⟨rfl,rfl,congrArg V.b (propext ⟨fun h=>Bool.noConfusion h,fun h=>False.elim (h0 (by rw [h]))⟩),rfl⟩
 ·refine⟨0, [(0,.k),(1,.k),(5,.k)],fun nM vs H=>∃(k:Nat),k≤a.length∧a.take k=b.take k∧nM=a.length-k∧vs= [.sl false tMl a,.sl false tMl b,.i k]∧H= [],⟨rfl,a.length,0,by omega,rfl,by omega,rfl,rfl⟩,?_⟩
  rintro nM vs H ⟨k,hc1_0,hc1_1,rfl,rfl,rfl⟩
  refine yn ((k:Int)<(a.length:Int)) (fun h1=> ?_) fun h1=> ?_
  ·have hka:k<a.length:=by omega
   have hkb:k<b.length:=by omega
   have la:=hp2 _ (gmem (0,0,0,0, [],()) a k hka)
   have lb:=hp3 _ (gmem (0,0,0,0, [],()) b k hkb)
   refine⟨by kernel_rfl,ix k a.length,ix k b.length,⟨os (((((((a.getD k (0,0,0,0, [],())).2).2).2).2).1).length≤1048576),os (((((((b.getD k (0,0,0,0, [],())).2).2).2).2).1).length≤1048576)⟩,by kernel_rfl,ny (¬(((((((a.getD k (0,0,0,0, [],())).2).2).2).2).1)=((((((b.getD k (0,0,0,0, [],())).2).2).2).2).1))) (fun h2=> ?_) fun h2=> ?_⟩
   ·refine⟨fun h3=> ?_,cn (¬(((((((a.getD k (0,0,0,0, [],())).2).2).2).2).1)=((((((b.getD k (0,0,0,0, [],())).2).2).2).2).1)))⟩
    refine⟨fun h4=> ?_,cn (¬(((((((a.getD k (0,0,0,0, [],())).2).2).2).2).1)=((((((b.getD k (0,0,0,0, [],())).2).2).2).2).1)))⟩
    refine⟨ix k a.length,fun h5=> ?_,cn (¬(((((((a.getD k (0,0,0,0, [],())).2).2).2).2).1)=((((((b.getD k (0,0,0,0, [],())).2).2).2).2).1)))⟩
    refine⟨fun h6=> ?_,cn (¬(((((((a.getD k (0,0,0,0, [],())).2).2).2).2).1)=((((((b.getD k (0,0,0,0, [],())).2).2).2).2).1)))⟩
    refine⟨fun h7=> ?_,cn (¬(((((((a.getD k (0,0,0,0, [],())).2).2).2).2).1)=((((((b.getD k (0,0,0,0, [],())).2).2).2).2).1)))⟩
    refine⟨fun h8=> ?_,cn (¬(((((((a.getD k (0,0,0,0, [],())).2).2).2).2).1)=((((((b.getD k (0,0,0,0, [],())).2).2).2).2).1)))⟩
    refine⟨fun h9=> ?_,cn (¬(((((((a.getD k (0,0,0,0, [],())).2).2).2).2).1)=((((((b.getD k (0,0,0,0, [],())).2).2).2).2).1)))⟩
    refine⟨ix k b.length,fun h10=> ?_,cn (¬(((((((a.getD k (0,0,0,0, [],())).2).2).2).2).1)=((((((b.getD k (0,0,0,0, [],())).2).2).2).2).1)))⟩
    refine⟨fun h11=> ?_,cn (¬(((((((a.getD k (0,0,0,0, [],())).2).2).2).2).1)=((((((b.getD k (0,0,0,0, [],())).2).2).2).2).1)))⟩
    refine⟨fun h12=> ?_,cn (¬(((((((a.getD k (0,0,0,0, [],())).2).2).2).2).1)=((((((b.getD k (0,0,0,0, [],())).2).2).2).2).1)))⟩
    refine⟨cn (¬(((((((a.getD k (0,0,0,0, [],())).2).2).2).2).1)=((((((b.getD k (0,0,0,0, [],())).2).2).2).2).1))),fun h13=> ?_⟩
    refine ny (((a.getD k (0,0,0,0, [],())).1)≠((b.getD k (0,0,0,0, [],())).1)) (fun h14=> ?_) fun h14=> ?_
    ·refine⟨fun h15=> ?_,cn (((a.getD k (0,0,0,0, [],())).1)≠((b.getD k (0,0,0,0, [],())).1))⟩
     refine⟨fun h16=> ?_,cn (((a.getD k (0,0,0,0, [],())).1)≠((b.getD k (0,0,0,0, [],())).1))⟩
     refine⟨ix k a.length,fun h17=> ?_,cn (((a.getD k (0,0,0,0, [],())).1)≠((b.getD k (0,0,0,0, [],())).1))⟩
     refine⟨fun h18=> ?_,cn (((a.getD k (0,0,0,0, [],())).1)≠((b.getD k (0,0,0,0, [],())).1))⟩
     refine⟨fun h19=> ?_,cn (((a.getD k (0,0,0,0, [],())).1)≠((b.getD k (0,0,0,0, [],())).1))⟩
     refine⟨fun h20=> ?_,cn (((a.getD k (0,0,0,0, [],())).1)≠((b.getD k (0,0,0,0, [],())).1))⟩
     refine⟨fun h21=> ?_,cn (((a.getD k (0,0,0,0, [],())).1)≠((b.getD k (0,0,0,0, [],())).1))⟩
     refine⟨ix k b.length,fun h22=> ?_,cn (((a.getD k (0,0,0,0, [],())).1)≠((b.getD k (0,0,0,0, [],())).1))⟩
     refine⟨fun h23=> ?_,cn (((a.getD k (0,0,0,0, [],())).1)≠((b.getD k (0,0,0,0, [],())).1))⟩
     refine⟨fun h24=> ?_,cn (((a.getD k (0,0,0,0, [],())).1)≠((b.getD k (0,0,0,0, [],())).1))⟩
     refine⟨cn (((a.getD k (0,0,0,0, [],())).1)≠((b.getD k (0,0,0,0, [],())).1)),fun h25=> ?_⟩
     refine ny ((((a.getD k (0,0,0,0, [],())).2).1)≠(((b.getD k (0,0,0,0, [],())).2).1)) (fun h26=> ?_) fun h26=> ?_
     ·refine⟨fun h27=> ?_,cn ((((a.getD k (0,0,0,0, [],())).2).1)≠(((b.getD k (0,0,0,0, [],())).2).1))⟩
      refine⟨fun h28=> ?_,cn ((((a.getD k (0,0,0,0, [],())).2).1)≠(((b.getD k (0,0,0,0, [],())).2).1))⟩
      refine⟨ix k a.length,fun h29=> ?_,cn ((((a.getD k (0,0,0,0, [],())).2).1)≠(((b.getD k (0,0,0,0, [],())).2).1))⟩
      refine⟨fun h30=> ?_,cn ((((a.getD k (0,0,0,0, [],())).2).1)≠(((b.getD k (0,0,0,0, [],())).2).1))⟩
      refine⟨fun h31=> ?_,cn ((((a.getD k (0,0,0,0, [],())).2).1)≠(((b.getD k (0,0,0,0, [],())).2).1))⟩
      refine⟨fun h32=> ?_,cn ((((a.getD k (0,0,0,0, [],())).2).1)≠(((b.getD k (0,0,0,0, [],())).2).1))⟩
      refine⟨fun h33=> ?_,cn ((((a.getD k (0,0,0,0, [],())).2).1)≠(((b.getD k (0,0,0,0, [],())).2).1))⟩
      refine⟨ix k b.length,fun h34=> ?_,cn ((((a.getD k (0,0,0,0, [],())).2).1)≠(((b.getD k (0,0,0,0, [],())).2).1))⟩
      refine⟨fun h35=> ?_,cn ((((a.getD k (0,0,0,0, [],())).2).1)≠(((b.getD k (0,0,0,0, [],())).2).1))⟩
      refine⟨fun h36=> ?_,cn ((((a.getD k (0,0,0,0, [],())).2).1)≠(((b.getD k (0,0,0,0, [],())).2).1))⟩
      refine⟨cn ((((a.getD k (0,0,0,0, [],())).2).1)≠(((b.getD k (0,0,0,0, [],())).2).1)),fun h37=> ?_⟩
      refine ny (((((a.getD k (0,0,0,0, [],())).2).2).1)≠((((b.getD k (0,0,0,0, [],())).2).2).1)) (fun h38=> ?_) fun h38=> ?_
      ·refine⟨fun h39=> ?_,cn (((((a.getD k (0,0,0,0, [],())).2).2).1)≠((((b.getD k (0,0,0,0, [],())).2).2).1))⟩
       refine⟨fun h40=> ?_,cn (((((a.getD k (0,0,0,0, [],())).2).2).1)≠((((b.getD k (0,0,0,0, [],())).2).2).1))⟩
       refine⟨ix k a.length,fun h41=> ?_,cn (((((a.getD k (0,0,0,0, [],())).2).2).1)≠((((b.getD k (0,0,0,0, [],())).2).2).1))⟩
       refine⟨fun h42=> ?_,cn (((((a.getD k (0,0,0,0, [],())).2).2).1)≠((((b.getD k (0,0,0,0, [],())).2).2).1))⟩
       refine⟨fun h43=> ?_,cn (((((a.getD k (0,0,0,0, [],())).2).2).1)≠((((b.getD k (0,0,0,0, [],())).2).2).1))⟩
       refine⟨fun h44=> ?_,cn (((((a.getD k (0,0,0,0, [],())).2).2).1)≠((((b.getD k (0,0,0,0, [],())).2).2).1))⟩
       refine⟨fun h45=> ?_,cn (((((a.getD k (0,0,0,0, [],())).2).2).1)≠((((b.getD k (0,0,0,0, [],())).2).2).1))⟩
       refine⟨ix k b.length,fun h46=> ?_,cn (((((a.getD k (0,0,0,0, [],())).2).2).1)≠((((b.getD k (0,0,0,0, [],())).2).2).1))⟩
       refine⟨fun h47=> ?_,cn (((((a.getD k (0,0,0,0, [],())).2).2).1)≠((((b.getD k (0,0,0,0, [],())).2).2).1))⟩
       refine⟨fun h48=> ?_,cn (((((a.getD k (0,0,0,0, [],())).2).2).1)≠((((b.getD k (0,0,0,0, [],())).2).2).1))⟩
       refine⟨cn (((((a.getD k (0,0,0,0, [],())).2).2).1)≠((((b.getD k (0,0,0,0, [],())).2).2).1)),fun h49=> ?_⟩
       refine yn ((((((a.getD k (0,0,0,0, [],())).2).2).2).1)≠(((((b.getD k (0,0,0,0, [],())).2).2).2).1)) (fun h50=> ?_) fun h50=> ?_
       ·exact⟨rfl,rfl,congrArg V.b (propext ⟨fun h=>Bool.noConfusion h,fun h=>False.elim (h50 (by rw [h]))⟩),rfl⟩
       ·have hnx:=take_next (d:=(0,0,0,0, [],())) hka hkb hc1_1 (Prod.ext (nw h14) (Prod.ext (nw h26) (Prod.ext (nw h38) (Prod.ext (nw h50) (Prod.ext (nw h2) rfl)))))
        refine⟨r64 (k+1),?_⟩
        exact⟨rfl,a.length-(k+1),by omega,k+1,by omega,hnx,rfl,rfl,rfl⟩
      ·refine⟨cp (((((a.getD k (0,0,0,0, [],())).2).2).1)≠((((b.getD k (0,0,0,0, [],())).2).2).1)),fun h51=> ?_⟩
       refine⟨cp (((((a.getD k (0,0,0,0, [],())).2).2).1)≠((((b.getD k (0,0,0,0, [],())).2).2).1)),fun h52=> ?_⟩
       refine⟨cp (((((a.getD k (0,0,0,0, [],())).2).2).1)≠((((b.getD k (0,0,0,0, [],())).2).2).1)),fun h53=> ?_⟩
       refine⟨cp (((((a.getD k (0,0,0,0, [],())).2).2).1)≠((((b.getD k (0,0,0,0, [],())).2).2).1)),fun h54=> ?_⟩
       refine⟨cp (((((a.getD k (0,0,0,0, [],())).2).2).1)≠((((b.getD k (0,0,0,0, [],())).2).2).1)),fun h55=> ?_⟩
       refine⟨cp (((((a.getD k (0,0,0,0, [],())).2).2).1)≠((((b.getD k (0,0,0,0, [],())).2).2).1)),fun h56=> ?_⟩
       refine⟨cp (((((a.getD k (0,0,0,0, [],())).2).2).1)≠((((b.getD k (0,0,0,0, [],())).2).2).1)),fun h57=> ?_⟩
       refine⟨cp (((((a.getD k (0,0,0,0, [],())).2).2).1)≠((((b.getD k (0,0,0,0, [],())).2).2).1)),fun h58=> ?_⟩
       refine⟨cp (((((a.getD k (0,0,0,0, [],())).2).2).1)≠((((b.getD k (0,0,0,0, [],())).2).2).1)),fun h59=> ?_⟩
       refine⟨cp (((((a.getD k (0,0,0,0, [],())).2).2).1)≠((((b.getD k (0,0,0,0, [],())).2).2).1)),fun h60=> ?_⟩
       refine⟨fun h61=> ?_,cp (((((a.getD k (0,0,0,0, [],())).2).2).1)≠((((b.getD k (0,0,0,0, [],())).2).2).1))⟩
       exact⟨rfl,rfl,congrArg V.b (propext ⟨fun h=>Bool.noConfusion h,fun h=>False.elim (h38 (by rw [h]))⟩),rfl⟩
     ·refine⟨cp ((((a.getD k (0,0,0,0, [],())).2).1)≠(((b.getD k (0,0,0,0, [],())).2).1)),fun h62=> ?_⟩
      refine⟨cp ((((a.getD k (0,0,0,0, [],())).2).1)≠(((b.getD k (0,0,0,0, [],())).2).1)),fun h63=> ?_⟩
      refine⟨cp ((((a.getD k (0,0,0,0, [],())).2).1)≠(((b.getD k (0,0,0,0, [],())).2).1)),fun h64=> ?_⟩
      refine⟨cp ((((a.getD k (0,0,0,0, [],())).2).1)≠(((b.getD k (0,0,0,0, [],())).2).1)),fun h65=> ?_⟩
      refine⟨cp ((((a.getD k (0,0,0,0, [],())).2).1)≠(((b.getD k (0,0,0,0, [],())).2).1)),fun h66=> ?_⟩
      refine⟨cp ((((a.getD k (0,0,0,0, [],())).2).1)≠(((b.getD k (0,0,0,0, [],())).2).1)),fun h67=> ?_⟩
      refine⟨cp ((((a.getD k (0,0,0,0, [],())).2).1)≠(((b.getD k (0,0,0,0, [],())).2).1)),fun h68=> ?_⟩
      refine⟨cp ((((a.getD k (0,0,0,0, [],())).2).1)≠(((b.getD k (0,0,0,0, [],())).2).1)),fun h69=> ?_⟩
      refine⟨cp ((((a.getD k (0,0,0,0, [],())).2).1)≠(((b.getD k (0,0,0,0, [],())).2).1)),fun h70=> ?_⟩
      refine⟨cp ((((a.getD k (0,0,0,0, [],())).2).1)≠(((b.getD k (0,0,0,0, [],())).2).1)),fun h71=> ?_⟩
      refine⟨fun h72=> ?_,cp ((((a.getD k (0,0,0,0, [],())).2).1)≠(((b.getD k (0,0,0,0, [],())).2).1))⟩
      exact⟨rfl,rfl,congrArg V.b (propext ⟨fun h=>Bool.noConfusion h,fun h=>False.elim (h26 (by rw [h]))⟩),rfl⟩
    ·refine⟨cp (((a.getD k (0,0,0,0, [],())).1)≠((b.getD k (0,0,0,0, [],())).1)),fun h73=> ?_⟩
     refine⟨cp (((a.getD k (0,0,0,0, [],())).1)≠((b.getD k (0,0,0,0, [],())).1)),fun h74=> ?_⟩
     refine⟨cp (((a.getD k (0,0,0,0, [],())).1)≠((b.getD k (0,0,0,0, [],())).1)),fun h75=> ?_⟩
     refine⟨cp (((a.getD k (0,0,0,0, [],())).1)≠((b.getD k (0,0,0,0, [],())).1)),fun h76=> ?_⟩
     refine⟨cp (((a.getD k (0,0,0,0, [],())).1)≠((b.getD k (0,0,0,0, [],())).1)),fun h77=> ?_⟩
     refine⟨cp (((a.getD k (0,0,0,0, [],())).1)≠((b.getD k (0,0,0,0, [],())).1)),fun h78=> ?_⟩
     refine⟨cp (((a.getD k (0,0,0,0, [],())).1)≠((b.getD k (0,0,0,0, [],())).1)),fun h79=> ?_⟩
     refine⟨cp (((a.getD k (0,0,0,0, [],())).1)≠((b.getD k (0,0,0,0, [],())).1)),fun h80=> ?_⟩
     refine⟨cp (((a.getD k (0,0,0,0, [],())).1)≠((b.getD k (0,0,0,0, [],())).1)),fun h81=> ?_⟩
     refine⟨cp (((a.getD k (0,0,0,0, [],())).1)≠((b.getD k (0,0,0,0, [],())).1)),fun h82=> ?_⟩
     refine⟨fun h83=> ?_,cp (((a.getD k (0,0,0,0, [],())).1)≠((b.getD k (0,0,0,0, [],())).1))⟩
     exact⟨rfl,rfl,congrArg V.b (propext ⟨fun h=>Bool.noConfusion h,fun h=>False.elim (h14 (by rw [h]))⟩),rfl⟩
   ·refine⟨cp (¬(((((((a.getD k (0,0,0,0, [],())).2).2).2).2).1)=((((((b.getD k (0,0,0,0, [],())).2).2).2).2).1))),fun h84=> ?_⟩
    refine⟨cp (¬(((((((a.getD k (0,0,0,0, [],())).2).2).2).2).1)=((((((b.getD k (0,0,0,0, [],())).2).2).2).2).1))),fun h85=> ?_⟩
    refine⟨cp (¬(((((((a.getD k (0,0,0,0, [],())).2).2).2).2).1)=((((((b.getD k (0,0,0,0, [],())).2).2).2).2).1))),fun h86=> ?_⟩
    refine⟨cp (¬(((((((a.getD k (0,0,0,0, [],())).2).2).2).2).1)=((((((b.getD k (0,0,0,0, [],())).2).2).2).2).1))),fun h87=> ?_⟩
    refine⟨cp (¬(((((((a.getD k (0,0,0,0, [],())).2).2).2).2).1)=((((((b.getD k (0,0,0,0, [],())).2).2).2).2).1))),fun h88=> ?_⟩
    refine⟨cp (¬(((((((a.getD k (0,0,0,0, [],())).2).2).2).2).1)=((((((b.getD k (0,0,0,0, [],())).2).2).2).2).1))),fun h89=> ?_⟩
    refine⟨cp (¬(((((((a.getD k (0,0,0,0, [],())).2).2).2).2).1)=((((((b.getD k (0,0,0,0, [],())).2).2).2).2).1))),fun h90=> ?_⟩
    refine⟨cp (¬(((((((a.getD k (0,0,0,0, [],())).2).2).2).2).1)=((((((b.getD k (0,0,0,0, [],())).2).2).2).2).1))),fun h91=> ?_⟩
    refine⟨cp (¬(((((((a.getD k (0,0,0,0, [],())).2).2).2).2).1)=((((((b.getD k (0,0,0,0, [],())).2).2).2).2).1))),fun h92=> ?_⟩
    refine⟨cp (¬(((((((a.getD k (0,0,0,0, [],())).2).2).2).2).1)=((((((b.getD k (0,0,0,0, [],())).2).2).2).2).1))),fun h93=> ?_⟩
    refine⟨fun h94=> ?_,cp (¬(((((((a.getD k (0,0,0,0, [],())).2).2).2).2).1)=((((((b.getD k (0,0,0,0, [],())).2).2).2).2).1)))⟩
    exact⟨rfl,rfl,congrArg V.b (propext ⟨fun h=>Bool.noConfusion h,fun h=>False.elim (h2 (by rw [h]))⟩),rfl⟩
  ·exact⟨rfl,rfl,congrArg V.b (propext ⟨fun _=>take_done (by omega) (by omega) hc1_1,fun _=>rfl⟩),rfl⟩
noncomputable def CSMl:List (Nat×Con):=(12,pureC [.v (.sl tMl),.v (.sl tMl)] sSMl)::CSTx
theorem kSMl:Known Tryd.prog (En CSMl tys G6 []):=kSTx.addQ Tryd.func12 Tryd.call12 [.k] fun ds _ _ _ h=>by unfold sSMl at h;split at h;exact bSMl _ _;cases h
noncomputable def sSSt:List V→Option (Prop×V×List Blk)
 |[.agg [.int .i64 ah,.str sa,.sl false (.sl .str) ar,.sl false (.sl (.sl .str)) av],.agg [.int .i64 bh,.str sb,.sl false (.sl .str) br,.sl false (.sl (.sl .str)) bv]]=>some (ar.length≤1048576∧br.length≤1048576∧av.length≤1048576∧bv.length≤1048576∧(∀x∈ar,x.length≤1048576)∧(∀x∈br,x.length≤1048576)∧(∀x∈av,x.length≤1048576∧∀y∈x,y.length≤1048576)∧(∀x∈bv,x.length≤1048576∧∀y∈x,y.length≤1048576),.b (ah=bh∧sa=sb∧ar=br∧av=bv), [])
 |_=>none
theorem bSSt (ah:Int) (sa:List UInt8) (ar:List (List (List UInt8))) (av:List (List (List (List UInt8)))) (bh:Int) (sb:List UInt8) (br:List (List (List UInt8))) (bv:List (List (List (List UInt8)))):bodyQ (En CSMl tys G6 []) Tryd.f13 [.k] sSSt [aSt ah sa ar av,aSt bh sb br bv]:=by
 rintro⟨hp0,hp1,hp2,hp3,(hp4:(∀x∈ar,x.length≤1048576)),(hp5:(∀x∈br,x.length≤1048576)),(hp6:(∀x∈av,x.length≤1048576∧∀y∈x,y.length≤1048576)),(hp7:(∀x∈bv,x.length≤1048576∧∀y∈x,y.length≤1048576))⟩
 refine ny (ah≠bh) (fun h0=> ?_) fun h0=> ?_
 ·refine ny (sa≠sb) (fun h1=> ?_) fun h1=> ?_
  ·refine ny ((ar.length:Int)≠(br.length:Int)) (fun h2=> ?_) fun h2=> ?_
   ·refine yn ((av.length:Int)≠(bv.length:Int)) (fun h3=> ?_) fun h3=> ?_
    ·exact⟨rfl,rfl,congrArg V.b (propext ⟨fun h=>Bool.noConfusion h,fun h=>False.elim (h3 (by rw [h.2.2.2]))⟩),rfl⟩
    ·refine⟨2, [(2,.k),(3,.k),(5,.k)],fun nM vs H=>∃(k:Nat),k≤ar.length∧ar.take k=br.take k∧nM=ar.length-k∧vs= [.p 0,.p 1,.i k]∧H= [cSt ah sa ar av,cSt bh sb br bv],⟨rfl,ar.length,0,by omega,rfl,by omega,rfl,rfl⟩,?_⟩
     rintro nM vs H ⟨k,hc1_0,hc1_1,rfl,rfl,rfl⟩
     refine yn ((k:Int)<(ar.length:Int)) (fun h4=> ?_) fun h4=> ?_
     ·have hka:k<ar.length:=by omega
      have hkb:k<br.length:=by omega
      have la:=hp4 _ (gmem [] ar k hka)
      have lb:=hp5 _ (gmem [] br k hkb)
      refine⟨by kernel_rfl,ix k ar.length,ix k br.length,⟨os ((ar.getD k []).length≤1048576),os ((br.getD k []).length≤1048576)⟩,yn (¬((ar.getD k [])=(br.getD k []))) (fun h5=> ?_) fun h5=> ?_⟩
      ·exact⟨rfl,rfl,congrArg V.b (propext ⟨fun h=>Bool.noConfusion h,fun h=>False.elim (h5 (by rw [h.2.2.1]))⟩),rfl⟩
      ·have hnx:=take_next (d:= []) hka hkb hc1_1 (nw h5)
       refine⟨r64 (k+1),?_⟩
       exact⟨rfl,ar.length-(k+1),by omega,k+1,by omega,hnx,rfl,rfl,rfl⟩
     ·have hr:ar=br:=take_done (by omega) (by omega) hc1_1
      refine⟨2, [(2,.k),(3,.k),(7,.k)],fun nM vs H=>∃(j:Nat),j≤av.length∧av.take j=bv.take j∧nM=av.length-j∧vs= [.p 0,.p 1,.i j]∧H= [cSt ah sa ar av,cSt bh sb br bv],⟨rfl,av.length,0,by omega,rfl,by omega,rfl,rfl⟩,?_⟩
      rintro nM vs H ⟨j,hc2_0,hc2_1,rfl,rfl,rfl⟩
      refine yn ((j:Int)<(av.length:Int)) (fun h6=> ?_) fun h6=> ?_
      ·have hja:j<av.length:=by omega
       have hjb:j<bv.length:=by omega
       obtain⟨lc,lc2⟩:=hp6 _ (gmem [] av j hja)
       obtain⟨ld,ld2⟩:=hp7 _ (gmem [] bv j hjb)
       refine⟨by kernel_rfl,ix j av.length,ix j bv.length,yn ((((av.getD j []).length:Nat):Int)≠(((bv.getD j []).length:Nat):Int)) (fun h7=> ?_) fun h7=> ?_⟩
       ·exact⟨rfl,rfl,congrArg V.b (propext ⟨fun h=>Bool.noConfusion h,fun h=>False.elim (h7 (by rw [h.2.2.2]))⟩),rfl⟩
       ·refine⟨2, [(2,.k),(3,.k),(7,.k),(8,.k)],fun nM vs H=>∃(i:Nat),i≤(av.getD j []).length∧(av.getD j []).take i=(bv.getD j []).take i∧nM=(av.getD j []).length-i∧vs= [.p 0,.p 1,.i j,.i i]∧H= [cSt ah sa ar av,cSt bh sb br bv],⟨rfl,(av.getD j []).length,0,by omega,rfl,by omega,rfl,rfl⟩,?_⟩
        rintro nM vs H ⟨i,hc3_0,hc3_1,rfl,rfl,rfl⟩
        refine⟨ix j av.length,yn ((i:Int)<(((av.getD j []).length:Nat):Int)) (fun h8=> ?_) fun h8=> ?_⟩
        ·have hia:i<(av.getD j []).length:=by omega
         have hib:i<(bv.getD j []).length:=by omega
         have le_:=lc2 _ (gmem [] _ i hia)
         have lf_:=ld2 _ (gmem [] _ i hib)
         refine⟨by kernel_rfl,ix j av.length,ix i (av.getD j []).length,ix j bv.length,ix i (bv.getD j []).length,⟨os (((av.getD j []).getD i []).length≤1048576),os (((bv.getD j []).getD i []).length≤1048576)⟩,yn (¬(((av.getD j []).getD i [])=((bv.getD j []).getD i []))) (fun h9=> ?_) fun h9=> ?_⟩
         ·exact⟨rfl,rfl,congrArg V.b (propext ⟨fun h=>Bool.noConfusion h,fun h=>False.elim (h9 (by rw [h.2.2.2]))⟩),rfl⟩
         ·have hny:=take_next (d:= []) hia hib hc3_1 (nw h9)
          refine⟨r64 (i+1),?_⟩
          exact⟨rfl,(av.getD j []).length-(i+1),by omega,i+1,by omega,hny,rfl,rfl,rfl⟩
        ·have hnz:=take_next (d:= []) hja hjb hc2_1 (take_done (by omega) (by omega) hc3_1)
         refine⟨r64 (j+1),?_⟩
         exact⟨rfl,av.length-(j+1),by omega,j+1,by omega,hnz,rfl,rfl,rfl⟩
      ·exact⟨rfl,rfl,congrArg V.b (propext ⟨fun _=>⟨nw h0,nw h1,hr,take_done (by omega) (by omega) hc2_1⟩,fun _=>rfl⟩),rfl⟩
   ·exact⟨rfl,rfl,congrArg V.b (propext ⟨fun h=>Bool.noConfusion h,fun h=>False.elim (h2 (by rw [h.2.2.1]))⟩),rfl⟩
  ·exact⟨rfl,rfl,congrArg V.b (propext ⟨fun h=>Bool.noConfusion h,fun h=>False.elim (h1 h.2.1)⟩),rfl⟩
 ·exact⟨rfl,rfl,congrArg V.b (propext ⟨fun h=>Bool.noConfusion h,fun h=>False.elim (h0 h.1)⟩),rfl⟩
noncomputable def CSSt:List (Nat×Con):=(13,pureC [.v tSt,.v tSt] sSSt)::CSMl
theorem kSSt:Known Tryd.prog (En CSSt tys G6 []):=kSMl.addQ Tryd.func13 Tryd.call13 [.k] fun ds _ _ _ h=>by unfold sSSt at h;split at h;exact bSSt _ _ _ _ _ _ _ _;cases h
noncomputable def sSz1:List V→Option (Prop×V×List Blk)
 |[.str s,.rp false (.int .i64) z 0]=>some (True,.b ((s.length:Int)≠z), [])
 |_=>none
theorem bSz1 (s:List UInt8) (z:Int):bodyQ (En CSSt tys G6 []) Tryd.f73 [.k] sSz1 [.str s,.rp false (.int .i64) z 0]:=by
 intro _
 exact d4'
noncomputable def CSz1:List (Nat×Con):=(73,pureC [.v .str,.ref (.int .i64)] sSz1)::CSSt
theorem kSz1:Known Tryd.prog (En CSz1 tys G6 []):=kSSt.addQ Tryd.func73 Tryd.call73 [.k] fun ds _ _ _ h=>by unfold sSz1 at h;split at h;exact bSz1 _ _;cases h
theorem bIxS0 (s:List (List UInt8)) (z:Int) (hp0:s.length≤1048576):bodyP (En CSz1 tys G6 []) Tryd.f95 [.k] [.sl false .str s,.fn 73 [.rp false (.int .i64) z 0]] (.int .i64 (ixP (fun x:List UInt8=>decide ((x.length:Int)≠z)) s 0)) []:=by
 refine⟨0, [(0,.k),(1,.k),(7,.k),(8,.k)],fun nM vs H=>∃(j:Nat),j≤s.length∧ixP (fun x:List UInt8=>decide ((x.length:Int)≠z)) (s.drop j) j=ixP (fun x:List UInt8=>decide ((x.length:Int)≠z)) s 0∧nM=s.length-j∧vs= [.sl false .str s,.fn 73 [.rp false (.int .i64) z 0],.i (s.length:Int),.i j]∧H= [],⟨rfl,s.length,0,by omega,rfl,by omega,rfl,rfl⟩,?_⟩
 rintro nM vs H ⟨j,hc1_0,hc1_1,rfl,rfl,rfl⟩
 refine yn ((j:Int)<(s.length:Int)) (fun h0=> ?_) fun h0=> ?_
 ·have hj:j<s.length:=by omega
  rw [drop_one [] s j hj,ixP] at hc1_1
  refine⟨ix j s.length,trivial,yn (((s.getD j []).length:Int)≠z) (fun h1=> ?_) fun h1=> ?_⟩
  ·rw [if_pos (decide_eq_true h1)] at hc1_1
   rw [←hc1_1]
   exact d4'
  ·rw [if_neg (by simpa using h1)] at hc1_1
   refine⟨r64 (j+1),?_⟩
   exact⟨rfl,s.length-(j+1),by omega,j+1,by omega,hc1_1,rfl,rfl,rfl⟩
 ·rw [List.drop_eq_nil_of_le (by omega),ixP] at hc1_1
  rw [←hc1_1]
  exact d4'
noncomputable def sIxS:List V→Option (Prop×V×List Blk)
 |[.sl false .str s,.fn 73 [.rp false (.int .i64) z 0]]=>some (s.length≤1048576,.int .i64 (ixP (fun x:List UInt8=>decide ((x.length:Int)≠z)) s 0), [])
 |_=>none
noncomputable def CIxS:List (Nat×Con):=(95,pureC [.v (.sl .str),.fn [(73, [.ref (.int .i64)])]] sIxS)::CSz1
theorem kIxS:Known Tryd.prog (En CIxS tys G6 []):=kSz1.add Tryd.func95 Tryd.call95 [.k] fun ds p v bs h hp=>by
 unfold sIxS at h
 split at h<;>simp only [Option.some.injEq,Prod.mk.injEq,reduceCtorEq] at h
 ·obtain⟨rfl,rfl,rfl⟩:=h
  exact bIxS0 _ _ hp
theorem bCfS0 (s:List (List UInt8)) (z:Int) (hp0:s.length≤1048576):bodyP (En CIxS tys G6 []) Tryd.f72 [.k] [.sl false .str s,.fn 73 [.rp false (.int .i64) z 0]] (.b (∃x∈s,(x.length:Int)≠z)) []:=by
 refine⟨om (s.length≤1048576),?_⟩
 exact⟨rfl,rfl,congrArg V.b (propext (ixP_isG (fun x:List UInt8=>decide ((x.length:Int)≠z)) s fun x=>decide_eq_true_iff)),rfl⟩
noncomputable def sCfS:List V→Option (Prop×V×List Blk)
 |[.sl false .str s,.fn 73 [.rp false (.int .i64) z 0]]=>some (s.length≤1048576,.b (∃x∈s,(x.length:Int)≠z), [])
 |_=>none
noncomputable def CCfS:List (Nat×Con):=(72,pureC [.v (.sl .str),.fn [(73, [.ref (.int .i64)])]] sCfS)::CIxS
theorem kCfS:Known Tryd.prog (En CCfS tys G6 []):=kIxS.add Tryd.func72 Tryd.call72 [.k] fun ds p v bs h hp=>by
 unfold sCfS at h
 split at h<;>simp only [Option.some.injEq,Prod.mk.injEq,reduceCtorEq] at h
 ·obtain⟨rfl,rfl,rfl⟩:=h
  exact bCfS0 _ _ hp
noncomputable def sSzd:List V→Option (Prop×V×List Blk)
 |[.sl false .str l,.int .i64 n,.int .i64 z]=>some (l.length≤1048576,.b ((l.length:Int)=n∧¬∃x∈l,(x.length:Int)≠z), [])
 |_=>none
theorem bSzd (l:List (List UInt8)) (n z:Int):bodyQ (En CCfS tys G6 []) Tryd.f40 [.k] sSzd [.sl false .str l,.int .i64 n,.int .i64 z]:=by
 intro hp0
 refine yn ((l.length:Int)=n) (fun h0=> ?_) fun h0=> ?_
 ·refine⟨rfl,om (l.length≤1048576),?_⟩
  first|exact⟨rfl,rfl,congrArg V.b (propext ⟨fun h=>⟨h0,h⟩,fun h=>h.2⟩),rfl⟩|exact⟨rfl,rfl,congrArg V.b (propext ⟨fun h=>Bool.noConfusion h,fun h=>absurd h.1 h0⟩),rfl⟩
 ·first|exact⟨rfl,rfl,congrArg V.b (propext ⟨fun h=>⟨h0,h⟩,fun h=>h.2⟩),rfl⟩|exact⟨rfl,rfl,congrArg V.b (propext ⟨fun h=>Bool.noConfusion h,fun h=>absurd h.1 h0⟩),rfl⟩
noncomputable def CSzd:List (Nat×Con):=(40,pureC [.v (.sl .str),.v (.int .i64),.v (.int .i64)] sSzd)::CCfS
theorem kSzd:Known Tryd.prog (En CSzd tys G6 []):=kCfS.addQ Tryd.func40 Tryd.call40 [.k] fun ds _ _ _ h=>by unfold sSzd at h;split at h;exact bSzd _ _ _;cases h
def oth (x:Int):Nat→List Int→List (Int×Int)
 |_, []=> []
 |k,h::l=>if h=x then oth x (k+1) l else((k:Int),h)::oth x (k+1) l
theorem oth_len (x:Int):∀(l:List Int) (k:Nat),(oth x k l).length≤l.length
 |[],k=>by simp [oth]
 |h::l,k=>by
  rw [oth]
  have:=oth_len x l (k+1)
  split<;>simp<;>omega
theorem oth_mem {x:Int} {p:Int×Int}:∀(l:List Int) (k:Nat),p∈oth x k l→∃i:Nat,i<l.length∧p.1=((k+i:Nat):Int)∧p.2=l.getD i 0∧p.2≠x
 |[],k,h=>by simp [oth] at h
 | a::l,k,h=>by
  rw [oth] at h
  split at h
  ·obtain⟨i,h1,h2,h3,h4⟩:=oth_mem l (k+1) h
   exact⟨i+1,by simpa using h1,by rw [h2,show k+1+i=k+(i+1) by omega],by rw [h3];rfl,h4⟩
  ·rename_i hne
   rcases List.mem_cons.1 h with rfl|h
   ·exact⟨0,by simp,rfl,rfl,hne⟩
   ·obtain⟨i,h1,h2,h3,h4⟩:=oth_mem l (k+1) h
    exact⟨i+1,by simpa using h1,by rw [h2,show k+1+i=k+(i+1) by omega],by rw [h3];rfl,h4⟩
abbrev Ml:=Int×(Int×(Int×(Int×(List (List UInt8)×Unit))))
def cmp1 (hs:List Int) (me:Int) (r:List (List UInt8)) (d:Int) (k:Nat):List Ml:=((oth me 0 hs).take k).map fun p=>(2,(me,(p.2,(d,([valS r p.2],())))))
theorem cmp1_snoc {hs:List Int} {me:Int} {r:List (List UInt8)} {d:Int} {k:Nat} (h:k<(oth me 0 hs).length):cmp1 hs me r d (k+1)=cmp1 hs me r d k++ [(2,(me,(((oth me 0 hs).getD k (0,0)).2,(d,([valS r ((oth me 0 hs).getD k (0,0)).2],())))))]:=by
 unfold cmp1
 rw [map_take_snoc (0,0) _ _ k h]
theorem cmp1_app {A:List Ml} {hs:List Int} {me:Int} {r:List (List UInt8)} {d:Int} {k:Nat} (h:k<(oth me 0 hs).length):A++cmp1 hs me r d (k+1)=A++cmp1 hs me r d k++ [(2,(me,(((oth me 0 hs).getD k (0,0)).2,(d,([valS r ((oth me 0 hs).getD k (0,0)).2],())))))]:=by
 rw [cmp1_snoc h,List.append_assoc]
theorem cmp1_len (hs:List Int) (me:Int) (r:List (List UInt8)) (d:Int) (k:Nat):(cmp1 hs me r d k).length≤hs.length:=by
 unfold cmp1
 rw [List.length_map,List.length_take]
 have:=oth_len me hs 0
 omega
def cmpK (hs:List Int) (me:Int) (rows:List (List (List UInt8))):Nat→List Ml
 |0=> []
 |k+1=>cmpK hs me rows k++(if(rows.getD k []).length=0 then [] else cmp1 hs me (rows.getD k []) (hs.getD k 0) (oth me 0 hs).length)
theorem cmpK_len (hs:List Int) (me:Int) (rows:List (List (List UInt8))):∀k,(cmpK hs me rows k).length≤k*hs.length
 |0=>by simp [cmpK]
 | k+1=>by
  rw [cmpK,List.length_append,Nat.succ_mul]
  have:=cmpK_len hs me rows k
  split
  ·simp;omega
  ·have:=cmp1_len hs me (rows.getD k []) (hs.getD k 0) (oth me 0 hs).length
   omega
def agB (vals:List (List (List UInt8))) (r:List (List UInt8)) (l:List (Int×Int)) (a:Int):Int:=
 l.foldl (fun a p=>if 0<(vals.getD p.1.toNat []).length∧(vals.getD p.1.toNat []).getD 0 []=valS r p.2 then nxt a p.2 else a) a
theorem agB_snoc (vals:List (List (List UInt8))) (r:List (List UInt8)) {l:List (Int×Int)} (a:Int) {k:Nat} (h:k<l.length):agB vals r (l.take (k+1)) a=
  (if 0<(vals.getD (l.getD k (0,0)).1.toNat []).length∧(vals.getD (l.getD k (0,0)).1.toNat []).getD 0 []=valS r (l.getD k (0,0)).2 then nxt (agB vals r (l.take k) a) (l.getD k (0,0)).2 else agB vals r (l.take k) a):=by
 unfold agB
 rw [takeD (0,0) l k h,List.foldl_append]
 rfl
theorem agB_bd (vals:List (List (List UInt8))) (r:List (List UInt8)):∀(l:List (Int×Int)) (a:Int),0≤a→a<4096→(∀p∈l,0≤p.2∧p.2<12)→0≤agB vals r l a∧agB vals r l a<4096
 |[],a,h0,h1,_=>⟨h0,h1⟩
 | p::l,a,h0,h1,hl=>by
  have hp:=hl p (by simp)
  rw [agB,List.foldl_cons]
  split
  ·have:=nxt_lt h0 h1 hp.1 hp.2
   exact agB_bd vals r l _ this.1 this.2 fun q hq=>hl q (by simp [hq])
  ·exact agB_bd vals r l _ h0 h1 fun q hq=>hl q (by simp [hq])
def pst1 (hs:List Int) (me:Int) (rows:List (List (List UInt8))) (vals:List (List (List (List UInt8)))) (k:Nat):Int:=
 if(rows.getD k []).length=0 then 0 else agB (vals.getD k []) (rows.getD k []) (oth me 0 hs) (1*2^me.toNat)
def fil {α:Type} (d:α) (f:Nat→α) (n k:Nat):List α:=(List.range n).map fun i=>if i<k then f i else d
theorem fil_len {α:Type} (d:α) (f:Nat→α) (n k:Nat):(fil d f n k).length=n:=by rw [fil,List.length_map,List.length_range]
theorem fil_set {α:Type} {d:α} {f:Nat→α} {n k:Nat} (h:k<n):(fil d f n k).set k (f k)=fil d f n (k+1):=by
 apply List.ext_getElem
 ·rw [List.length_set,fil_len,fil_len]
 ·intro i h1 h2
  simp only [fil,List.getElem_set,List.getElem_map,List.getElem_range]
  by_cases e:k=i
  ·subst e;rw [if_pos rfl,if_pos (by omega)]
  ·rw [if_neg e]
   by_cases g:i<k
   ·rw [if_pos g,if_pos (by omega)]
   ·rw [if_neg g,if_neg (by omega)]
theorem fil_zero {α:Type} (d:α) (f:Nat→α) (n:Nat):fil d f n 0=List.replicate n d:=by
 rw [fil,show(fun i=>if i<0 then f i else d)=fun _=>d from rfl,List.map_const',List.length_range]
theorem fil_all {α:Type} (d:α) (f:Nat→α) (n:Nat):fil d f n n=(List.range n).map f:=by
 unfold fil
 exact List.map_congr_left fun i hi=>if_pos (List.mem_range.1 hi)
theorem fil_same {α:Type} {d:α} {f:Nat→α} {n k:Nat} (h:f k=d):fil d f n (k+1)=fil d f n k:=by
 unfold fil
 refine List.map_congr_left fun i _=> ?_
 by_cases g:i<k
 ·rw [if_pos g,if_pos (by omega)]
 ·rw [if_neg g]
  by_cases e:i=k
  ·subst e;rw [if_pos (by omega),h]
  ·rw [if_neg (by omega)]
def pstL (hs:List Int) (me:Int) (rows:List (List (List UInt8))) (vals:List (List (List (List UInt8)))):List Int:=(List.range hs.length).map (pst1 hs me rows vals)
def rcvN (hs:List Int) (st me f t d tick:Int):Prop:=t≠me∨f=me∨idxF f hs 0<0∨idxF d hs 0<0∨tick<st
instance (hs:List Int) (st me f t d tick:Int):Decidable (rcvN hs st me f t d tick):=by unfold rcvN;infer_instance
def szdP (l:List (List UInt8)) (n z:Int):Prop:=(l.length:Int)=n∧¬∃x∈l,(x.length:Int)≠z
instance (l:List (List UInt8)) (n z:Int):Decidable (szdP l n z):=by unfold szdP;infer_instance
def rcvP (hs:List Int) (nd sz st ph me:Int) (rows:List (List (List UInt8))) (mk f t d:Int) (ss:List (List UInt8)) (tick:Int):Prop:=
 ¬rcvN hs st me f t d tick∧mk=1∧f=d∧(rows.getD (idxF d hs 0).toNat []).length=0∧szdP ss (nd-1) sz∧tick<st+ph
instance (hs:List Int) (nd sz st ph me:Int) (rows:List (List (List UInt8))) (mk f t d:Int) (ss:List (List UInt8)) (tick:Int):Decidable (rcvP hs nd sz st ph me rows mk f t d ss tick):=by unfold rcvP;infer_instance
def rcvR (hs:List Int) (nd sz st ph me:Int) (rows:List (List (List UInt8))) (mk f t d:Int) (ss:List (List UInt8)) (tick:Int):List (List (List UInt8)):=
 if rcvP hs nd sz st ph me rows mk f t d ss tick then rows.set (idxF d hs 0).toNat ss else rows
def rcvQ (hs:List Int) (sz st ph me:Int) (vals:List (List (List (List UInt8)))) (mk f t d:Int) (ss:List (List UInt8)) (tick:Int):Prop:=
 ¬rcvN hs st me f t d tick∧mk=2∧((vals.getD (idxF d hs 0).toNat []).getD (idxF f hs 0).toNat []).length=0∧szdP ss 1 sz∧tick<st+2*ph
instance (hs:List Int) (sz st ph me:Int) (vals:List (List (List (List UInt8)))) (mk f t d:Int) (ss:List (List UInt8)) (tick:Int):Decidable (rcvQ hs sz st ph me vals mk f t d ss tick):=by unfold rcvQ;infer_instance
def rcvV (hs:List Int) (sz st ph me:Int) (vals:List (List (List (List UInt8)))) (mk f t d:Int) (ss:List (List UInt8)) (tick:Int):List (List (List (List UInt8))):=
 if rcvQ hs sz st ph me vals mk f t d ss tick then vals.set (idxF d hs 0).toNat ((vals.getD (idxF d hs 0).toNat []).set (idxF f hs 0).toNat ss) else vals
theorem idx_lt {hs:List Int} {x:Int} (h:¬idxF x hs 0<0):(idxF x hs 0).toNat<hs.length:=by
 have hm:=(idxF_mem x hs 0 (by omega)).1 (by omega)
 exact(pos_of hm).2.1
def begE (hs:List Int) (nd wr sz st ph me:Int) (sh nz:List UInt8):Int:=
 if tkE hs nd wr sz st ph=0 then(if idxF me hs 0<0 then 8 else if mkE nd sz nz=0∧(sh.length:Int)=sz then 0 else 1) else tkE hs nd wr sz st ph
def begH (hs:List Int) (nd wr sz st ph me:Int) (sh nz:List UInt8):Int:=if begE hs nd wr sz st ph me sh nz=0 then me else 0
def begS (hs:List Int) (nd wr sz st ph me:Int) (sh nz:List UInt8):List UInt8:=if begE hs nd wr sz st ph me sh nz=0 then sh else []
def begR (hs:List Int) (nd wr sz st ph me:Int) (sh nz:List UInt8):List (List (List UInt8)):=
 if begE hs nd wr sz st ph me sh nz=0 then(List.replicate hs.length []).set (idxF me hs 0).toNat (rowL (mkN nd sz nz) (mkC nd sz nz) me) else []
def begV (hs:List Int) (nd wr sz st ph me:Int) (sh nz:List UInt8):List (List (List (List UInt8))):=
 if begE hs nd wr sz st ph me sh nz=0 then List.replicate hs.length (List.replicate hs.length []) else []
def beg1 (hs:List Int) (nd sz me:Int) (nz:List UInt8) (k:Nat):List Ml:=((oth me 0 hs).take k).map fun p=>(1,(me,(p.2,(me,(rowL (mkN nd sz nz) (mkC nd sz nz) p.2,())))))
theorem beg1_snoc {hs:List Int} {nd sz me:Int} {nz:List UInt8} {k:Nat} (h:k<(oth me 0 hs).length):beg1 hs nd sz me nz (k+1)=beg1 hs nd sz me nz k++ [(1,(me,(((oth me 0 hs).getD k (0,0)).2,(me,(rowL (mkN nd sz nz) (mkC nd sz nz) ((oth me 0 hs).getD k (0,0)).2,())))))]:=by
 unfold beg1
 rw [map_take_snoc (0,0) _ _ k h]
theorem beg1_len (hs:List Int) (nd sz me:Int) (nz:List UInt8) (k:Nat):(beg1 hs nd sz me nz k).length≤hs.length:=by
 unfold beg1
 rw [List.length_map,List.length_take]
 have:=oth_len me hs 0
 omega
def begM (hs:List Int) (nd wr sz st ph me:Int) (sh nz:List UInt8):List Ml:=
 if begE hs nd wr sz st ph me sh nz=0 then beg1 hs nd sz me nz (oth me 0 hs).length else []
theorem fil_const {α:Type} (d x:α) (n:Nat):fil d (fun _=>x) n n=List.replicate n x:=by rw [fil_all,List.map_const',List.length_range]
theorem beg_err {hs:List Int} {nd wr sz st ph me:Int} {sh nz:List UInt8} (h:begE hs nd wr sz st ph me sh nz≠0):
  begH hs nd wr sz st ph me sh nz=0∧begS hs nd wr sz st ph me sh nz= []∧begR hs nd wr sz st ph me sh nz= []∧begV hs nd wr sz st ph me sh nz= []∧begM hs nd wr sz st ph me sh nz= []:=
 ⟨if_neg h,if_neg h,if_neg h,if_neg h,if_neg h⟩
theorem beg_ok {hs:List Int} {nd wr sz st ph me:Int} {sh nz:List UInt8} (h:begE hs nd wr sz st ph me sh nz=0):
  begH hs nd wr sz st ph me sh nz=me∧begS hs nd wr sz st ph me sh nz=sh∧begR hs nd wr sz st ph me sh nz=(List.replicate hs.length []).set (idxF me hs 0).toNat (rowL (mkN nd sz nz) (mkC nd sz nz) me)∧begV hs nd wr sz st ph me sh nz=List.replicate hs.length (List.replicate hs.length [])∧begM hs nd wr sz st ph me sh nz=beg1 hs nd sz me nz (oth me 0 hs).length:=
 ⟨if_pos h,if_pos h,if_pos h,if_pos h,if_pos h⟩
theorem mkC_mx (nd sz:Int) {nz:List UInt8} (h:nz.length≤1048576):(mkC nd sz nz).length≤1048576∧∀l∈mkC nd sz nz,l.length≤1048576∧∀x∈l,x.length≤1048576:=by
 unfold mkC
 split
 ·rename_i h0
  have hn:¬(nd<2∨12<nd∨sz<0∨4096<sz):=fun g=>by unfold mkE at h0;rw [if_pos g] at h0;cases h0
  unfold mkD
  refine⟨by rw [List.length_map,List.length_range];omega,fun l hl=> ?_⟩
  obtain⟨a,_,rfl⟩:=List.mem_map.1 hl
  refine⟨by rw [List.length_map,List.length_range];omega,fun x hx=> ?_⟩
  obtain⟨b,_,rfl⟩:=List.mem_map.1 hx
  rw [List.length_take,dn_len];omega
 ·exact⟨Nat.zero_le _,fun l hl=>by cases hl⟩
noncomputable def sOth:List V→Option (Prop×Nat×(Nat→List V))
 |[.rp false (.cons (.sl (.int .i64)) (.cons (.int .i64) (.cons (.int .i64) (.cons (.int .i64) (.cons (.int .i64) (.cons (.int .i64) .nil)))))) t 0,.rp false (.int .i64) x 0]=>some (t.1.length≤2000000,((oth x 0 t.1).length,fun n=> [.int .i64 (((oth x 0 t.1).getD n (0,0)).1),.int .i64 (((oth x 0 t.1).getD n (0,0)).2)]))
 |_=>none
theorem bOth (t:(List Int×(Int×(Int×(Int×(Int×(Int×Unit))))))) (x:Int) (hp0:t.1.length≤2000000):bodyS (En CSzd tys G6 []).inR Tryd.f68 [.rp false tTk t 0,.rp false (.int .i64) x 0] [.v (.int .i64),.v (.int .i64)] ((oth x 0 t.1).length,fun n=> [.int .i64 (((oth x 0 t.1).getD n (0,0)).1),.int .i64 (((oth x 0 t.1).getD n (0,0)).2)]):=by
 refine⟨rfl,0, [(0,.k),(2,.k),(7,.k),(8,.k),(9,.k)],fun nM vs H=>∃(k q:Nat),k≤(oth x 0 t.1).length∧(oth x 0 t.1).drop k=oth x q (t.1.drop q)∧nM=t.1.length-q∧vs= [.yld (some k),.rp false (.int .i64) x 0,.sl false (.int .i64) t.1,.int .i64 (t.1.length:Int),.int .i64 (q:Int)]∧H= [],⟨rfl,t.1.length,0,0,by omega,rfl,by omega,rfl,rfl⟩,?_⟩
 rintro nM vs H ⟨k,q,hc1_0,hc1_1,rfl,rfl,rfl⟩
 refine yn ((q:Int)<(t.1.length:Int)) (fun h0=> ?_) fun h0=> ?_
 ·have hq:q<t.1.length:=by omega
  rw [drop_one 0 t.1 q hq,oth] at hc1_1
  refine⟨ix q (t.1.length:Int),yn ((t.1.getD q 0)≠x) (fun h1=> ?_) fun h1=> ?_⟩
  ·rw [if_neg h1] at hc1_1
   obtain⟨y1,y2,y3⟩:=drop_cons (d:=(0,0)) hc1_1
   refine⟨rfl,rfl,⟨y1,by show [V.int .i64 (q:Int),V.int .i64 (t.1.getD q 0)]= [V.int .i64 ((oth x 0 t.1).getD k (0,0)).1,V.int .i64 ((oth x 0 t.1).getD k (0,0)).2];rw [y2]⟩,?_,?_⟩
   ·refine⟨r64 (q+1),?_⟩
    exact⟨rfl,t.1.length-(q+1),by omega,k+1,q+1,by omega,y3,rfl,rfl,rfl⟩
   ·trivial
  ·rw [if_pos (nw h1)] at hc1_1
   have y3:=hc1_1
   refine⟨r64 (q+1),?_⟩
   exact⟨rfl,t.1.length-(q+1),by omega,k,q+1,by omega,y3,rfl,rfl,rfl⟩
 ·rw [show t.1.drop q= [] from List.drop_eq_nil_of_le (by omega),show oth x q []= [] from rfl] at hc1_1
  have hz:=drop_nil hc1_0 hc1_1
  show(k:Nat)=(oth x 0 t.1).length
  omega
noncomputable def QOth:List (Nat×SeqC):=(68, [.ref tTk,.ref (.int .i64)],sOth):: []
noncomputable def COth:List (Nat×Con):=CSzd
theorem kOth:Known Tryd.prog (En COth tys G6 QOth):=kSzd.addSeq Tryd.func68 Tryd.call68 [.v (.int .i64),.v (.int .i64)] fun ds p L h hp=>by
 unfold sOth at h
 split at h<;>simp only [Option.some.injEq,Prod.mk.injEq,reduceCtorEq] at h
 obtain⟨rfl,rfl⟩:=h
 exact bOth _ _ hp
noncomputable def sOts:List V→Option (Prop×V×List Blk)
 |[.agg [.sl false (.int .i64) hs,.int .i64 nd,.int .i64 wr,.int .i64 sz,.int .i64 st,.int .i64 ph],.int .i64 x]=>some (True,.fn 68 [.ptr 0 1 0 0,.ptr 1 1 0 0], [.cells [.sl false (.int .i64) (hs),.int .i64 (nd),.int .i64 (wr),.int .i64 (sz),.int .i64 (st),.int .i64 (ph)],.cells [.int .i64 (x)]])
 |_=>none
theorem bOts (hs:List Int) (nd wr sz st ph x:Int):bodyR (En COth tys G6 QOth) Tryd.f35 [.c []] sOts [aTk hs nd wr sz st ph,.int .i64 x]:=by
 intro _
 exact d4'
noncomputable def COts:List (Nat×Con):=(35,immC [.v tTk,.v (.int .i64)] sOts)::COth
theorem kOts:Known Tryd.prog (En COts tys G6 QOth):=kOth.addR Tryd.func35 Tryd.call35 [.c []] fun ds _ _ _ h=>by unfold sOts at h;split at h;exact bOts _ _ _ _ _ _ _;cases h
noncomputable def sClS:List V→Option (Prop×V×List Blk)
 |[.sl false .str s]=>some (s.length≤1048576,.own .str 0, [.row true .str (s)])
 |_=>none
theorem bClS (s:List (List UInt8)):bodyQ (En COts tys G6 QOth) Tryd.f41 [.o .str] sClS [.sl false .str s]:=by
 intro hp0
 refine fun p0 hq0=> ?_
 refine yn (p0) (fun h1=> ?_) fun h1=> ?_
 ·have e:=hq0 h1
  subst e
  exact d4'
 ·refine⟨w2',l0 s.length,?_⟩
  exact d4'
noncomputable def CClS:List (Nat×Con):=(41,pureC [.v (.sl .str)] sClS)::COts
theorem kClS:Known Tryd.prog (En CClS tys G6 QOth):=kOts.addQ Tryd.func41 Tryd.call41 [.o .str] fun ds _ _ _ h=>by unfold sClS at h;split at h;exact bClS _;cases h
noncomputable def sCmp:List V→Option (Prop×V×List Blk)
 |[.agg [.sl false (.int .i64) hs,.int .i64 nd,.int .i64 wr,.int .i64 sz,.int .i64 st,.int .i64 ph],.agg [.int .i64 me,.str sh,.sl false (.sl .str) rows,.sl false (.sl (.sl .str)) vals]]=>some (hs.length≤1000∧rows.length=hs.length∧(∀x∈rows,x.length≤1048576),.own (.cons (.int .i64) (.cons (.int .i64) (.cons (.int .i64) (.cons (.int .i64) (.cons (.sl .str) .nil))))) 0, [.row true (.cons (.int .i64) (.cons (.int .i64) (.cons (.int .i64) (.cons (.int .i64) (.cons (.sl .str) .nil))))) (cmpK hs me rows hs.length)])
 |_=>none
theorem bCmp (hs:List Int) (nd wr sz st ph me:Int) (sh:List UInt8) (rows:List (List (List UInt8))) (vals:List (List (List (List UInt8)))):bodyQ (En CClS tys G6 QOth [1000002,8000045,8000046]) Tryd.f18 [.o tMl] sCmp [aTk hs nd wr sz st ph,aSt me sh rows vals]:=by
 rintro⟨hp0,hp1,(hp2:(∀x∈rows,x.length≤1048576))⟩
 refine⟨4, [(2,.k),(3,.k),(5,.c [(0,tMl)]),(13,.k),(14,.k),(15,.k)],fun nM vs H=>∃(k:Nat),k≤hs.length∧nM=hs.length-k∧vs= [.p 0,.p 1,.p 2,.sl false (.int .i64) hs,.i (hs.length:Int),.i k]∧H= [cTk hs nd wr sz st ph,cSt me sh rows vals,.cells [.own tMl 3],.r tMl (cmpK hs me rows k)],⟨rfl,hs.length,0,by omega,by omega,rfl,rfl⟩,?_⟩
 rintro nM vs H ⟨k,hc1_0,rfl,rfl,rfl⟩
 refine yn ((k:Int)<(hs.length:Int)) (fun h0=> ?_) fun h0=> ?_
 ·have hkl:k<hs.length:=by omega
  have hkm:=hp2 _ (gmem [] rows k (by omega))
  have hcl:=cmpK_len hs me rows k
  have hcl2:k*hs.length≤1000000:=Nat.le_trans (Nat.mul_le_mul (show k≤1000 by omega) hp0) (by omega)
  refine⟨ix k hs.length,w3',w3',ix k rows.length,yn ((((rows.getD k []).length:Nat):Int)=0) (fun h1=> ?_) fun h1=> ?_⟩
  ·have hst:cmpK hs me rows (k+1)=cmpK hs me rows k:=by rw [cmpK,if_pos (by omega),List.append_nil]
   refine⟨r64 (k+1),?_⟩
   exact⟨rfl,hs.length-(k+1),by omega,k+1,by omega,rfl,rfl,by rw [hst];rfl⟩
  ·have hst:cmpK hs me rows (k+1)=cmpK hs me rows k++cmp1 hs me (rows.getD k []) (hs.getD k 0) (oth me 0 hs).length:=by rw [cmpK,if_neg (by omega)]
   refine⟨rfl,rfl,rfl,rfl,rfl,rfl,trivial,rfl,rfl,rfl,rfl,rfl,rfl,rfl,⟨om (hs.length≤2000000),fun _ _=>rfl⟩,6, [(2,.k),(3,.k),(5,.c [(0,tMl)]),(6,.k),(7,.k),(13,.k),(14,.k),(15,.k)],fun n vs H=>n≤(oth me 0 hs).length∧vs= [.ptr 0 1 0 0,.ptr 1 1 0 0,.ptr 2 1 0 0,.ptr 4 1 0 0,.ptr 5 1 0 0,.sl false (.int .i64) hs,.int .i64 (hs.length:Int),.int .i64 (k:Int)]∧H= [.cells [.sl false (.int .i64) hs,.int .i64 nd,.int .i64 wr,.int .i64 sz,.int .i64 st,.int .i64 ph],.cells [.int .i64 me,.str sh,.sl false (.sl .str) rows,.sl false (.sl (.sl .str)) vals],.cells [.own tMl 3],.row true tMl (cmpK hs me rows k++cmp1 hs me (rows.getD k []) (hs.getD k 0) n),.cells [.int .i64 (k:Int)],.cells [.int .i64 (hs.getD k 0)]],⟨rfl,by omega,rfl,by rw [show cmp1 hs me (rows.getD k []) (hs.getD k 0) 0= [] from rfl,List.append_nil];rfl⟩,?_,?_⟩
   ·rintro n vs H ⟨hc2_0,rfl,rfl⟩ hn2
    replace hn2:n<(oth me 0 hs).length:=hn2
    have hl1:=cmp1_len hs me (rows.getD k []) (hs.getD k 0) n
    have hl2:(cmpK hs me rows k++cmp1 hs me (rows.getD k []) (hs.getD k 0) n).length≤1001000:=by rw [List.length_append];omega
    refine⟨ix k rows.length,rfl,os ((rows.getD k []).length≤1048576),rfl,rfl,rfl,rfl,w2',l9 (cmpK hs me rows k++cmp1 hs me (rows.getD k []) (hs.getD k 0) n).length,w3',?_⟩
    exact⟨rfl,rfl,by omega,rfl,by rw [cmp1_app hn2];rfl⟩
   ·rintro vs H ⟨hc2_0,rfl,rfl⟩
    refine⟨r64 (k+1),?_⟩
    exact⟨rfl,hs.length-(k+1),by omega,k+1,by omega,rfl,rfl,by rw [hst];rfl⟩
 ·rw [show cmpK hs me rows hs.length=cmpK hs me rows k by rw [show k=hs.length by omega]]
  exact d4'
noncomputable def CCmp:List (Nat×Con):=(18,pureC [.v tTk,.v tSt] sCmp)::CClS
theorem kCmp:Known Tryd.prog (En CCmp tys G6 QOth):=Known.frz0<|(kClS.frz [1000002,8000045,8000046]).addQ Tryd.func18 Tryd.call18 [.o tMl] fun ds _ _ _ h=>by unfold sCmp at h;split at h;exact bCmp _ _ _ _ _ _ _ _ _ _;cases h
noncomputable def sPst:List V→Option (Prop×V×List Blk)
 |[.agg [.sl false (.int .i64) hs,.int .i64 nd,.int .i64 wr,.int .i64 sz,.int .i64 st,.int .i64 ph],.agg [.int .i64 me,.str sh,.sl false (.sl .str) rows,.sl false (.sl (.sl .str)) vals]]=>some (hs.length≤1000∧rows.length=hs.length∧vals.length=hs.length∧(∀x∈vals,x.length=hs.length)∧(∀x∈rows,x.length≤1048576)∧(∀x∈hs,0≤x∧x<12)∧0≤me∧me<12,.agg [.int .i64 (me),.sl true (.int .i64) (pstL hs me rows vals)], [])
 |_=>none
theorem bPst (hs:List Int) (nd wr sz st ph me:Int) (sh:List UInt8) (rows:List (List (List UInt8))) (vals:List (List (List (List UInt8)))):bodyQ (En CCmp tys G6 QOth) Tryd.f16 [.k,.d (.int .i64)] sPst [aTk hs nd wr sz st ph,aSt me sh rows vals]:=by
 rintro⟨hp0,hp1,hp2,(hp3:(∀x∈vals,x.length=hs.length)),(hp4:(∀x∈rows,x.length≤1048576)),(hp5:(∀x∈hs,0≤x∧x<12)),hp6,hp7⟩
 obtain⟨pm0,pm1⟩:=pw12 hp6 hp7
 refine⟨by kernel_rfl,⟨rfl,om ((0:Int)≤(hs.length:Int)),om ((hs.length:Int)≤(1000000000:Int))⟩,w4',5, [(2,.k),(3,.k),(4,.k),(5,.k),(21,.k),(22,.k)],fun nM vs H=>∃(k:Nat),k≤hs.length∧nM=hs.length-k∧vs= [.ptr 0 1 0 0,.ptr 1 1 0 0,.ptr 2 1 0 0,.ptr 3 1 0 0,.int .i64 (hs.length:Int),.int .i64 (k:Int)]∧H= [.cells [.sl false (.int .i64) hs,.int .i64 nd,.int .i64 wr,.int .i64 sz,.int .i64 st,.int .i64 ph],.cells [.int .i64 me,.str sh,.sl false (.sl .str) rows,.sl false (.sl (.sl .str)) vals],.cells [.int .i64 0,.nils],.cells [.int .i64 me,.own (.int .i64) 4],.row true (.int .i64) (fil 0 (pst1 hs me rows vals) hs.length k)],⟨rfl,hs.length,0,by omega,by omega,rfl,by rw [fil_zero];rfl⟩,?_⟩
 rintro nM vs H ⟨k,hc1_0,rfl,rfl,rfl⟩
 refine yn ((k:Int)<(hs.length:Int)) (fun h0=> ?_) fun h0=> ?_
 ·have hkl:k<hs.length:=by omega
  have hkm:=hp4 _ (gmem [] rows k (by omega))
  have hkv:=hp3 _ (gmem [] vals k (by omega))
  have hfl:=fil_len 0 (pst1 hs me rows vals) hs.length k
  refine⟨w3',ix k rows.length,yn ((((rows.getD k []).length:Nat):Int)=0) (fun h1=> ?_) fun h1=> ?_⟩
  ·have hst:fil 0 (pst1 hs me rows vals) hs.length (k+1)=fil 0 (pst1 hs me rows vals) hs.length k:=fil_same (by unfold pst1;rw [if_pos (by omega)])
   refine⟨r64 (k+1),?_⟩
   exact⟨rfl,hs.length-(k+1),by omega,k+1,by omega,rfl,rfl,by rw [hst];rfl⟩
  ·have hst:fil 0 (pst1 hs me rows vals) hs.length (k+1)=(fil 0 (pst1 hs me rows vals) hs.length k).set k (agB (vals.getD k []) (rows.getD k []) ((oth me 0 hs).take (oth me 0 hs).length) (1*2^me.toNat)):=by rw [←fil_set hkl,pst1,if_neg (by omega),List.take_length]
   refine⟨by kernel_rfl,⟨om ((0:Int)≤me),om (me≤(64:Int))⟩,r64 ((1:Int)*2^me.toNat),ix k (fil 0 (pst1 hs me rows vals) hs.length k).length,rfl,w2',rfl,rfl,rfl,rfl,rfl,rfl,trivial,rfl,rfl,rfl,rfl,rfl,rfl,rfl,⟨om (hs.length≤2000000),fun _ _=>rfl⟩,6, [(2,.k),(3,.k),(4,.k),(5,.k),(6,.k),(21,.k),(22,.k)],fun n vs H=>n≤(oth me 0 hs).length∧vs= [.ptr 0 1 0 0,.ptr 1 1 0 0,.ptr 2 1 0 0,.ptr 3 1 0 0,.ptr 5 1 0 0,.int .i64 (hs.length:Int),.int .i64 (k:Int)]∧H= [.cells [.sl false (.int .i64) hs,.int .i64 nd,.int .i64 wr,.int .i64 sz,.int .i64 st,.int .i64 ph],.cells [.int .i64 me,.str sh,.sl false (.sl .str) rows,.sl false (.sl (.sl .str)) vals],.cells [.int .i64 0,.nils],.cells [.int .i64 me,.own (.int .i64) 4],.row true (.int .i64) ((fil 0 (pst1 hs me rows vals) hs.length k).set k (agB (vals.getD k []) (rows.getD k []) ((oth me 0 hs).take n) (1*2^me.toNat))),.cells [.int .i64 (k:Int)]],⟨rfl,by omega,rfl,rfl⟩,?_,?_⟩
   ·rintro n vs H ⟨hc2_0,rfl,rfl⟩ hn2
    replace hn2:n<(oth me 0 hs).length:=hn2
    obtain⟨i,hi,e1,e2,e3⟩:=oth_mem hs 0 (gmem (0,0) (oth me 0 hs) n hn2)
    obtain⟨g0,g1⟩:=hp5 _ (gmem 0 hs i hi)
    rw [←e2] at g0 g1
    obtain⟨q0,q1⟩:=pw12 g0 g1
    obtain⟨a0,a1⟩:=agB_bd (vals.getD k []) (rows.getD k []) ((oth me 0 hs).take n) (1*2^me.toNat) (by omega) (by omega) (fun p hp=>by obtain⟨i,hi,_,e2,_⟩:=oth_mem hs 0 (List.mem_of_mem_take hp);rw [e2];exact hp5 _ (gmem 0 hs i hi))
    have hgs:((fil 0 (pst1 hs me rows vals) hs.length k).set k (agB (vals.getD k []) (rows.getD k []) ((oth me 0 hs).take n) (1*2^me.toNat))).getD k 0=agB (vals.getD k []) (rows.getD k []) ((oth me 0 hs).take n) (1*2^me.toNat):=by rw [gD (by rw [List.length_set];omega)];exact List.getElem_set_self ..
    have hsl:((fil 0 (pst1 hs me rows vals) hs.length k).set k (agB (vals.getD k []) (rows.getD k []) ((oth me 0 hs).take n) (1*2^me.toNat))).length=hs.length:=by rw [List.length_set];exact hfl
    have hsn:=agB_snoc (vals.getD k []) (rows.getD k []) (1*2^me.toNat) hn2
    refine⟨ix k rows.length,rfl,os ((rows.getD k []).length≤1048576),ix k vals.length,ix ((oth me 0 hs).getD n (0,0)).1 (vals.getD k []).length,yn (0<((((vals.getD k []).getD ((((oth me 0 hs).getD n (0,0)).1).toNat) []).length:Nat):Int)) (fun h2=> ?_) fun h2=> ?_⟩
    ·refine⟨ix 0 ((vals.getD k []).getD ((((oth me 0 hs).getD n (0,0)).1).toNat) []).length,yn ((((vals.getD k []).getD ((((oth me 0 hs).getD n (0,0)).1).toNat) []).getD 0 [])=(valS (rows.getD k []) (((oth me 0 hs).getD n (0,0)).2))) (fun h3=> ?_) fun h3=> ?_⟩
     ·have hnx:(fil 0 (pst1 hs me rows vals) hs.length k).set k (agB (vals.getD k []) (rows.getD k []) ((oth me 0 hs).take (n+1)) (1*2^me.toNat))=((fil 0 (pst1 hs me rows vals) hs.length k).set k (agB (vals.getD k []) (rows.getD k []) ((oth me 0 hs).take n) (1*2^me.toNat))).set k (nxt (((fil 0 (pst1 hs me rows vals) hs.length k).set k (agB (vals.getD k []) (rows.getD k []) ((oth me 0 hs).take n) (1*2^me.toNat))).getD k 0) ((oth me 0 hs).getD n (0,0)).2):=by rw [hgs,List.set_set,hsn,if_pos ⟨by omega,h3⟩]
      refine⟨by kernel_rfl,ix k ((fil 0 (pst1 hs me rows vals) hs.length k).set k (agB (vals.getD k []) (rows.getD k []) ((oth me 0 hs).take n) (1*2^me.toNat))).length,⟨om ((0:Int)≤((oth me 0 hs).getD n (0,0)).2),om (((oth me 0 hs).getD n (0,0)).2≤(64:Int))⟩,r64 ((1:Int)*2^((((oth me 0 hs).getD n (0,0)).2).toNat)),.inl ⟨⟨om ((0:Int)≤(((fil 0 (pst1 hs me rows vals) hs.length k).set k (agB (vals.getD k []) (rows.getD k []) ((oth me 0 hs).take n) (1*2^me.toNat))).getD k 0)),om ((0:Int)≤((1:Int)*2^((((oth me 0 hs).getD n (0,0)).2).toNat)))⟩,?_⟩⟩
      refine⟨ix k ((fil 0 (pst1 hs me rows vals) hs.length k).set k (agB (vals.getD k []) (rows.getD k []) ((oth me 0 hs).take n) (1*2^me.toNat))).length,rfl,w2',?_⟩
      exact⟨rfl,rfl,by omega,rfl,by rw [hnx];rfl⟩
     ·have hnx:(fil 0 (pst1 hs me rows vals) hs.length k).set k (agB (vals.getD k []) (rows.getD k []) ((oth me 0 hs).take (n+1)) (1*2^me.toNat))=(fil 0 (pst1 hs me rows vals) hs.length k).set k (agB (vals.getD k []) (rows.getD k []) ((oth me 0 hs).take n) (1*2^me.toNat)):=by rw [hsn,if_neg (fun g=>h3 g.2)]
      exact⟨rfl,rfl,by omega,rfl,by rw [hnx];rfl⟩
    ·have hnx:(fil 0 (pst1 hs me rows vals) hs.length k).set k (agB (vals.getD k []) (rows.getD k []) ((oth me 0 hs).take (n+1)) (1*2^me.toNat))=(fil 0 (pst1 hs me rows vals) hs.length k).set k (agB (vals.getD k []) (rows.getD k []) ((oth me 0 hs).take n) (1*2^me.toNat)):=by rw [hsn,if_neg (fun g=>h2 (by omega))]
     exact⟨rfl,rfl,by omega,rfl,by rw [hnx];rfl⟩
   ·rintro vs H ⟨hc2_0,rfl,rfl⟩
    refine⟨r64 (k+1),?_⟩
    exact⟨rfl,hs.length-(k+1),by omega,k+1,by omega,rfl,rfl,by rw [hst];rfl⟩
 ·refine⟨w4',?_⟩
  rw [show pstL hs me rows vals=fil 0 (pst1 hs me rows vals) hs.length k by rw [pstL,show k=hs.length by omega,fil_all]]
  exact d4'
noncomputable def CPst:List (Nat×Con):=(16,pureC [.v tTk,.v tSt] sPst)::CCmp
theorem kPst:Known Tryd.prog (En CPst tys G6 QOth):=kCmp.addQ Tryd.func16 Tryd.call16 [.k,.d (.int .i64)] fun ds _ _ _ h=>by unfold sPst at h;split at h;exact bPst _ _ _ _ _ _ _ _ _ _;cases h
noncomputable def sRcv:List V→Option (Prop×V×List Blk)
 |[.agg [.sl false (.int .i64) hs,.int .i64 nd,.int .i64 wr,.int .i64 sz,.int .i64 st,.int .i64 ph],.agg [.int .i64 me,.str sh,.sl false (.sl .str) rows,.sl false (.sl (.sl .str)) vals],.agg [.int .i64 mk,.int .i64 mf,.int .i64 mt,.int .i64 md,.sl false .str ss],.int .i64 tick]=>some (tkE hs nd wr sz st ph=0∧rows.length=hs.length∧vals.length=hs.length∧(∀x∈vals,x.length=hs.length)∧(∀x∈rows,x.length≤1048576)∧ss.length≤1048576,.agg [.int .i64 (me),.str (sh),.sl false (.sl .str) (rcvR hs nd sz st ph me rows mk mf mt md ss tick),.sl false (.sl (.sl .str)) (rcvV hs sz st ph me vals mk mf mt md ss tick)], [])
 |_=>none
theorem bRcv (hs:List Int) (nd wr sz st ph me:Int) (sh:List UInt8) (rows:List (List (List UInt8))) (vals:List (List (List (List UInt8)))) (mk:Int) (mf:Int) (mt:Int) (md:Int) (ss:List (List UInt8)) (tick:Int):bodyR (En CPst tys G6 QOth [1000002,10000139]) Tryd.f14 [.k,.k,.d (.sl .str),.d (.sl (.sl .str))] sRcv [aTk hs nd wr sz st ph,aSt me sh rows vals,.agg [.int .i64 mk,.int .i64 mf,.int .i64 mt,.int .i64 md,.sl false .str ss],.int .i64 tick]:=by
 rintro⟨hp0,hp1,hp2,(hp3:(∀x∈vals,x.length=hs.length)),(hp4:(∀x∈rows,x.length≤1048576)),hp5⟩
 have hT:=tk0 hp0
 have hl12:=hT.l12
 obtain⟨r1,r2,r3,⟨r4,r5⟩,⟨r6,r7⟩⟩:=hT.rg.1
 refine⟨by kernel_rfl,rfl,om (hs.length≤2000000),rfl,om (hs.length≤2000000),ny (mt≠me) (fun h0=> ?_) fun h0=> ?_⟩
 ·refine ny (mf=me) (fun h1=> ?_) fun h1=> ?_
  ·refine ny ((idxF mf hs 0)<0) (fun h2=> ?_) fun h2=> ?_
   ·have if_:=idx_lt h2
    refine ny ((idxF md hs 0)<0) (fun h3=> ?_) fun h3=> ?_
    ·have id_:=idx_lt h3
     have hkm:=hp4 _ (gmem [] rows _ (show(idxF md hs 0).toNat<rows.length by omega))
     have hkv:=hp3 _ (gmem [] vals _ (show(idxF md hs 0).toNat<vals.length by omega))
     refine yn (tick<st) (fun h4=> ?_) fun h4=> ?_
     ·refine⟨w4',?_⟩
      have e1:rcvR hs nd sz st ph me rows mk mf mt md ss tick=rows:=if_neg (fun g=>by obtain⟨g1,g2,g3,g4,g5,g6⟩:=g;unfold rcvN at g1;first|omega|exact h8 g5)
      have e2:rcvV hs sz st ph me vals mk mf mt md ss tick=vals:=if_neg (fun g=>by obtain⟨g1,g2,g3,g4,g5⟩:=g;unfold rcvN at g1;first|omega|exact h12 g4)
      rw [e1,e2]
      exact d4'
     ·refine yn (mk=1) (fun h5=> ?_) fun h5=> ?_
      ·refine yn (mf=md) (fun h6=> ?_) fun h6=> ?_
       ·refine⟨ix (idxF md hs 0) rows.length,yn ((((rows.getD ((idxF md hs 0).toNat) []).length:Nat):Int)=0) (fun h7=> ?_) fun h7=> ?_⟩
        ·refine⟨r64 (nd-1),rfl,rfl,om (ss.length≤1048576),yn ((ss.length:Int)=(nd-1)∧¬∃x∈ss,(x.length:Int)≠sz) (fun h8=> ?_) fun h8=> ?_⟩
         ·refine⟨r64 (st+ph),yn (tick<(st+ph)) (fun h9=> ?_) fun h9=> ?_⟩
          ·refine⟨⟨rfl,om ((0:Int)≤(rows.length:Int)),om ((rows.length:Int)≤(1000000000:Int))⟩,w2',⟨by show rows.length=(List.replicate rows.length []).length;first|omega|(simp only [List.length_replicate,Int.toNat_natCast];omega)|(simp only [List.length_replicate,Int.toNat_natCast];done),om (0<rows.length)⟩,om (ss.length≤1048576),ix (idxF md hs 0) rows.length,⟨fun h=>(by first|rfl|cases h),rfl,rfl⟩,w3',w4',?_⟩
           have e1:rcvR hs nd sz st ph me rows mk mf mt md ss tick=rows.set (idxF md hs 0).toNat ss:=if_pos ⟨by unfold rcvN;omega,h5,h6,by omega,h8,h9⟩
           have e2:rcvV hs sz st ph me vals mk mf mt md ss tick=vals:=if_neg (fun g=>by obtain⟨g1,g2,g3,g4,g5⟩:=g;omega)
           rw [e1,e2]
           exact d4'
          ·refine⟨w4',?_⟩
           have e1:rcvR hs nd sz st ph me rows mk mf mt md ss tick=rows:=if_neg (fun g=>by obtain⟨g1,g2,g3,g4,g5,g6⟩:=g;unfold rcvN at g1;first|omega|exact h8 g5)
           have e2:rcvV hs sz st ph me vals mk mf mt md ss tick=vals:=if_neg (fun g=>by obtain⟨g1,g2,g3,g4,g5⟩:=g;unfold rcvN at g1;first|omega|exact h12 g4)
           rw [e1,e2]
           exact d4'
         ·refine⟨w4',?_⟩
          have e1:rcvR hs nd sz st ph me rows mk mf mt md ss tick=rows:=if_neg (fun g=>by obtain⟨g1,g2,g3,g4,g5,g6⟩:=g;unfold rcvN at g1;first|omega|exact h8 g5)
          have e2:rcvV hs sz st ph me vals mk mf mt md ss tick=vals:=if_neg (fun g=>by obtain⟨g1,g2,g3,g4,g5⟩:=g;unfold rcvN at g1;first|omega|exact h12 g4)
          rw [e1,e2]
          exact d4'
        ·refine⟨w4',?_⟩
         have e1:rcvR hs nd sz st ph me rows mk mf mt md ss tick=rows:=if_neg (fun g=>by obtain⟨g1,g2,g3,g4,g5,g6⟩:=g;unfold rcvN at g1;first|omega|exact h8 g5)
         have e2:rcvV hs sz st ph me vals mk mf mt md ss tick=vals:=if_neg (fun g=>by obtain⟨g1,g2,g3,g4,g5⟩:=g;unfold rcvN at g1;first|omega|exact h12 g4)
         rw [e1,e2]
         exact d4'
       ·refine⟨w4',?_⟩
        have e1:rcvR hs nd sz st ph me rows mk mf mt md ss tick=rows:=if_neg (fun g=>by obtain⟨g1,g2,g3,g4,g5,g6⟩:=g;unfold rcvN at g1;first|omega|exact h8 g5)
        have e2:rcvV hs sz st ph me vals mk mf mt md ss tick=vals:=if_neg (fun g=>by obtain⟨g1,g2,g3,g4,g5⟩:=g;unfold rcvN at g1;first|omega|exact h12 g4)
        rw [e1,e2]
        exact d4'
      ·refine yn (mk=2) (fun h10=> ?_) fun h10=> ?_
       ·refine⟨ix (idxF md hs 0) vals.length,ix (idxF mf hs 0) (vals.getD ((idxF md hs 0).toNat) []).length,yn (((((vals.getD ((idxF md hs 0).toNat) []).getD ((idxF mf hs 0).toNat) []).length:Nat):Int)=0) (fun h11=> ?_) fun h11=> ?_⟩
        ·refine⟨rfl,rfl,om (ss.length≤1048576),yn ((ss.length:Int)=1∧¬∃x∈ss,(x.length:Int)≠sz) (fun h12=> ?_) fun h12=> ?_⟩
         ·refine⟨r64 (2*ph),r64 (st+(2*ph)),yn (tick<(st+(2*ph))) (fun h13=> ?_) fun h13=> ?_⟩
          ·refine⟨by kernel_rfl,⟨rfl,om ((0:Int)≤(vals.length:Int)),om ((vals.length:Int)≤(1000000000:Int))⟩,⟨rfl,om ((0:Int)≤(vals.length:Int)),om ((vals.length:Int)≤(1000000000:Int))⟩,w2',⟨by show vals.length=(List.replicate vals.length []).length;first|omega|(simp only [List.length_replicate,Int.toNat_natCast];omega)|(simp only [List.length_replicate,Int.toNat_natCast];done),om (0<vals.length)⟩,ix (idxF md hs 0) vals.length,w2',⟨by show(vals.getD ((idxF md hs 0).toNat) []).length=(List.replicate vals.length []).length;first|omega|(simp only [List.length_replicate,Int.toNat_natCast];omega)|(simp only [List.length_replicate,Int.toNat_natCast];done),om (0<(vals.getD ((idxF md hs 0).toNat) []).length)⟩,om (ss.length≤1048576),ix (idxF mf hs 0) (vals.getD ((idxF md hs 0).toNat) []).length,⟨fun h=>(by first|rfl|cases h),rfl,rfl⟩,ix (idxF md hs 0) vals.length,⟨fun h=>(by first|rfl|cases h),rfl,rfl⟩,w3',w4',?_⟩
           have e1:rcvR hs nd sz st ph me rows mk mf mt md ss tick=rows:=if_neg (fun g=>by obtain⟨g1,g2,g3,g4,g5,g6⟩:=g;omega)
           have e2:rcvV hs sz st ph me vals mk mf mt md ss tick=vals.set (idxF md hs 0).toNat ((vals.getD (idxF md hs 0).toNat []).set (idxF mf hs 0).toNat ss):=if_pos ⟨by unfold rcvN;omega,h10,by omega,h12,h13⟩
           rw [e1,e2]
           exact d4'
          ·refine⟨w4',?_⟩
           have e1:rcvR hs nd sz st ph me rows mk mf mt md ss tick=rows:=if_neg (fun g=>by obtain⟨g1,g2,g3,g4,g5,g6⟩:=g;unfold rcvN at g1;first|omega|exact h8 g5)
           have e2:rcvV hs sz st ph me vals mk mf mt md ss tick=vals:=if_neg (fun g=>by obtain⟨g1,g2,g3,g4,g5⟩:=g;unfold rcvN at g1;first|omega|exact h12 g4)
           rw [e1,e2]
           exact d4'
         ·refine⟨w4',?_⟩
          have e1:rcvR hs nd sz st ph me rows mk mf mt md ss tick=rows:=if_neg (fun g=>by obtain⟨g1,g2,g3,g4,g5,g6⟩:=g;unfold rcvN at g1;first|omega|exact h8 g5)
          have e2:rcvV hs sz st ph me vals mk mf mt md ss tick=vals:=if_neg (fun g=>by obtain⟨g1,g2,g3,g4,g5⟩:=g;unfold rcvN at g1;first|omega|exact h12 g4)
          rw [e1,e2]
          exact d4'
        ·refine⟨w4',?_⟩
         have e1:rcvR hs nd sz st ph me rows mk mf mt md ss tick=rows:=if_neg (fun g=>by obtain⟨g1,g2,g3,g4,g5,g6⟩:=g;unfold rcvN at g1;first|omega|exact h8 g5)
         have e2:rcvV hs sz st ph me vals mk mf mt md ss tick=vals:=if_neg (fun g=>by obtain⟨g1,g2,g3,g4,g5⟩:=g;unfold rcvN at g1;first|omega|exact h12 g4)
         rw [e1,e2]
         exact d4'
       ·refine⟨w4',?_⟩
        have e1:rcvR hs nd sz st ph me rows mk mf mt md ss tick=rows:=if_neg (fun g=>by obtain⟨g1,g2,g3,g4,g5,g6⟩:=g;unfold rcvN at g1;first|omega|exact h8 g5)
        have e2:rcvV hs sz st ph me vals mk mf mt md ss tick=vals:=if_neg (fun g=>by obtain⟨g1,g2,g3,g4,g5⟩:=g;unfold rcvN at g1;first|omega|exact h12 g4)
        rw [e1,e2]
        exact d4'
    ·refine⟨w4',?_⟩
     have e1:rcvR hs nd sz st ph me rows mk mf mt md ss tick=rows:=if_neg (fun g=>by obtain⟨g1,g2,g3,g4,g5,g6⟩:=g;unfold rcvN at g1;first|omega|exact h8 g5)
     have e2:rcvV hs sz st ph me vals mk mf mt md ss tick=vals:=if_neg (fun g=>by obtain⟨g1,g2,g3,g4,g5⟩:=g;unfold rcvN at g1;first|omega|exact h12 g4)
     rw [e1,e2]
     exact d4'
   ·refine⟨w4',?_⟩
    have e1:rcvR hs nd sz st ph me rows mk mf mt md ss tick=rows:=if_neg (fun g=>by obtain⟨g1,g2,g3,g4,g5,g6⟩:=g;unfold rcvN at g1;first|omega|exact h8 g5)
    have e2:rcvV hs sz st ph me vals mk mf mt md ss tick=vals:=if_neg (fun g=>by obtain⟨g1,g2,g3,g4,g5⟩:=g;unfold rcvN at g1;first|omega|exact h12 g4)
    rw [e1,e2]
    exact d4'
  ·refine⟨w4',?_⟩
   have e1:rcvR hs nd sz st ph me rows mk mf mt md ss tick=rows:=if_neg (fun g=>by obtain⟨g1,g2,g3,g4,g5,g6⟩:=g;unfold rcvN at g1;first|omega|exact h8 g5)
   have e2:rcvV hs sz st ph me vals mk mf mt md ss tick=vals:=if_neg (fun g=>by obtain⟨g1,g2,g3,g4,g5⟩:=g;unfold rcvN at g1;first|omega|exact h12 g4)
   rw [e1,e2]
   exact d4'
 ·refine⟨w4',?_⟩
  have e1:rcvR hs nd sz st ph me rows mk mf mt md ss tick=rows:=if_neg (fun g=>by obtain⟨g1,g2,g3,g4,g5,g6⟩:=g;unfold rcvN at g1;first|omega|exact h8 g5)
  have e2:rcvV hs sz st ph me vals mk mf mt md ss tick=vals:=if_neg (fun g=>by obtain⟨g1,g2,g3,g4,g5⟩:=g;unfold rcvN at g1;first|omega|exact h12 g4)
  rw [e1,e2]
  exact d4'
noncomputable def CRcv:List (Nat×Con):=(14,immC [.v tTk,.v tSt,.v tMl,.v (.int .i64)] sRcv)::CPst
theorem kRcv:Known Tryd.prog (En CRcv tys G6 QOth):=Known.frz0<|(kPst.frz [1000002,10000139]).addR Tryd.func14 Tryd.call14 [.k,.k,.d (.sl .str),.d (.sl (.sl .str))] fun ds _ _ _ h=>by unfold sRcv at h;split at h;exact bRcv _ _ _ _ _ _ _ _ _ _ _ _ _ _ _ _;cases h
noncomputable def sBg1:List V→Option (Prop×V×List Blk)
 |[.int .i64 e]=>some (True,.tup [.agg [.int .i64 0,.str ([]),.sl true (.sl .str) ([]),.sl true (.sl (.sl .str)) ([])],.sl true (.cons (.int .i64) (.cons (.int .i64) (.cons (.int .i64) (.cons (.int .i64) (.cons (.sl .str) .nil))))) ([]),.int .i64 (e)], [])
 |_=>none
theorem bBg1 (e:Int):bodyQ (En CRcv tys G6 QOth) Tryd.f31 [.e [(2,(.sl .str)),(3,(.sl (.sl .str)))],.d tMl,.k] sBg1 [.int .i64 e]:=by
 intro _
 refine⟨w4',?_⟩
 exact d4'
noncomputable def CBg1:List (Nat×Con):=(31,pureC [.v (.int .i64)] sBg1)::CRcv
theorem kBg1:Known Tryd.prog (En CBg1 tys G6 QOth):=kRcv.addQ Tryd.func31 Tryd.call31 [.e [(2,(.sl .str)),(3,(.sl (.sl .str)))],.d tMl,.k] fun ds _ _ _ h=>by unfold sBg1 at h;split at h;exact bBg1 _;cases h
noncomputable def sBeg:List V→Option (Prop×V×List Blk)
 |[.agg [.sl false (.int .i64) hs,.int .i64 nd,.int .i64 wr,.int .i64 sz,.int .i64 st,.int .i64 ph],.int .i64 me,.str sh,.str nz]=>some (hs.length≤1000∧(tkE hs nd wr sz st ph=0→nd≤7)∧sh.length≤1048576∧nz.length≤1048576,.tup [.agg [.int .i64 (begH hs nd wr sz st ph me sh nz),.str (begS hs nd wr sz st ph me sh nz),.sl true (.sl .str) (begR hs nd wr sz st ph me sh nz),.sl true (.sl (.sl .str)) (begV hs nd wr sz st ph me sh nz)],.sl true (.cons (.int .i64) (.cons (.int .i64) (.cons (.int .i64) (.cons (.int .i64) (.cons (.sl .str) .nil))))) (begM hs nd wr sz st ph me sh nz),.int .i64 (begE hs nd wr sz st ph me sh nz)], [])
 |_=>none
theorem bBeg (hs:List Int) (nd wr sz st ph me:Int) (sh nz:List UInt8):bodyQ (En CBg1 tys G6 QOth [10000075,9000087,7100120]) Tryd.f8 [.e [(2,(.sl .str)),(3,(.sl (.sl .str)))],.d tMl,.k] sBeg [aTk hs nd wr sz st ph,.int .i64 me,.str sh,.str nz]:=by
 rintro⟨hp0,hp1,hp2,hp3⟩
 refine⟨rfl,rfl,rfl,rfl,rfl,om (hs.length≤2000000),yn ((tkE hs nd wr sz st ph)≠0) (fun h0=> ?_) fun h0=> ?_⟩
 ·refine⟨rfl,trivial,w4',?_⟩
  have e:begE hs nd wr sz st ph me sh nz=tkE hs nd wr sz st ph:=by unfold begE;rw [if_neg h0]
  obtain⟨e1,e2,e3,e4,e5⟩:=beg_err (show begE hs nd wr sz st ph me sh nz≠0 by rw [e];exact h0)
  rw [e1,e2,e3,e4,e5,e]
  exact d4'
 ·have hT:=tk0 (nw h0)
  have hl12:=hT.l12
  have hnd:=hp1 (nw h0)
  have hmx:=mkC_mx nd sz hp3
  refine⟨rfl,om (hs.length≤2000000),yn ((idxF me hs 0)<0) (fun h1=> ?_) fun h1=> ?_⟩
  ·refine⟨rfl,trivial,w4',?_⟩
   have e:begE hs nd wr sz st ph me sh nz=8:=by unfold begE;rw [if_pos (nw h0),if_pos h1]
   obtain⟨e1,e2,e3,e4,e5⟩:=beg_err (show begE hs nd wr sz st ph me sh nz≠0 by rw [e];decide)
   rw [e1,e2,e3,e4,e5,e]
   exact d4'
  ·have hix:=idx_lt h1
   refine⟨rfl,rfl,om (nd≤7),w4',ny ((mkE nd sz nz)≠0) (fun h2=> ?_) fun h2=> ?_⟩
   ·refine yn ((sh.length:Int)≠sz) (fun h3=> ?_) fun h3=> ?_
    ·refine⟨rfl,trivial,w4',?_⟩
     have e:begE hs nd wr sz st ph me sh nz=1:=by unfold begE;rw [if_pos (nw h0),if_neg h1,if_neg (fun g=>h3 g.2)]
     obtain⟨e1,e2,e3,e4,e5⟩:=beg_err (show begE hs nd wr sz st ph me sh nz≠0 by rw [e];decide)
     rw [e1,e2,e3,e4,e5,e]
     exact d4'
    ·have hrl:(List.replicate hs.length ([]:List (List UInt8))).length=hs.length:=List.length_replicate ..
     have hrl2:(List.replicate hs.length ([]:List (List (List UInt8)))).length=hs.length:=List.length_replicate ..
     refine⟨by kernel_rfl,⟨rfl,om ((0:Int)≤(hs.length:Int)),om ((hs.length:Int)≤(1000000000:Int))⟩,⟨rfl,om ((0:Int)≤(hs.length:Int)),om ((hs.length:Int)≤(1000000000:Int))⟩,w4',7, [(4,.k),(5,.k),(8,.k),(13,.k),(14,.k),(16,.k),(17,.k),(80,.k),(81,.k)],fun nM vs H=>∃(k:Nat),k≤hs.length∧nM=hs.length-k∧vs= [.ptr 0 1 0 0,.ptr 1 1 0 0,.ptr 2 1 0 0,.int .i64 (idxF me hs 0),.ptr 3 1 0 0,.int .i64 (hs.length:Int),.ptr 5 1 0 0,.int .i64 (((List.replicate hs.length []).length:Nat):Int),.int .i64 (k:Int)]∧H= [.cells [.sl false (.int .i64) hs,.int .i64 nd,.int .i64 wr,.int .i64 sz,.int .i64 st,.int .i64 ph],.cells [.int .i64 me],.cells [.int .i64 0,.str ([]),.nils,.nils],.cells [.int .i64 (mkN nd sz nz),.sl true (.sl .str) (mkC nd sz nz)],.row true (.sl (.sl .str)) (fil [] (fun _=>List.replicate hs.length []) hs.length k),.cells [.int .i64 me,.str sh,.own (.sl .str) 6,.own (.sl (.sl .str)) 4],.row true (.sl .str) (List.replicate hs.length [])],⟨rfl,hs.length,0,by omega,by omega,rfl,by rw [fil_zero];rfl⟩,?_⟩
     rintro nM vs H ⟨k,hc1_0,rfl,rfl,rfl⟩
     refine yn ((k:Int)<(((List.replicate hs.length []).length:Nat):Int)) (fun h4=> ?_) fun h4=> ?_
     ·have hst:fil [] (fun _=>List.replicate hs.length []) hs.length (k+1)=(fil [] (fun _=>List.replicate hs.length []) hs.length k).set k (List.replicate hs.length ([]:List (List UInt8))):=(fil_set (by omega)).symm
      have hfl:=fil_len [] (fun _=>List.replicate hs.length ([]:List (List UInt8))) hs.length k
      refine⟨by kernel_rfl,⟨rfl,om ((0:Int)≤(hs.length:Int)),om ((hs.length:Int)≤(1000000000:Int))⟩,ix k (fil [] (fun _=>List.replicate hs.length []) hs.length k).length,⟨fun h=>(by first|rfl|cases h),rfl,rfl⟩,r64 (k+1),?_⟩
      exact⟨rfl,hs.length-(k+1),by omega,k+1,by omega,rfl,rfl,by rw [hst];rfl⟩
     ·refine⟨by kernel_rfl,rfl,rfl,⟨hmx.1,hmx.2⟩,ix (idxF me hs 0) (List.replicate hs.length []).length,⟨fun h=>(by first|rfl|cases h),rfl,rfl⟩,rfl,rfl,rfl,rfl,rfl,rfl,trivial,rfl,rfl,rfl,rfl,rfl,rfl,rfl,⟨om (hs.length≤2000000),fun _ _=>rfl⟩,11, [(5,.k),(8,.k),(14,.k),(17,.k),(19,.c [(0,tMl)])],fun n vs H=>n≤(oth me 0 hs).length∧vs= [.ptr 1 1 0 0,.ptr 2 1 0 0,.ptr 3 1 0 0,.ptr 5 1 0 0,.ptr 7 1 0 0]∧H= [.cells [.sl false (.int .i64) hs,.int .i64 nd,.int .i64 wr,.int .i64 sz,.int .i64 st,.int .i64 ph],.cells [.int .i64 me],.cells [.int .i64 0,.str ([]),.nils,.nils],.cells [.int .i64 (mkN nd sz nz),.sl true (.sl .str) (mkC nd sz nz)],.row true (.sl (.sl .str)) (fil [] (fun _=>List.replicate hs.length []) hs.length k),.cells [.int .i64 me,.str sh,.own (.sl .str) 6,.own (.sl (.sl .str)) 4],.row true (.sl .str) ((List.replicate hs.length []).set ((idxF me hs 0).toNat) (rowL (mkN nd sz nz) (mkC nd sz nz) me)),.cells [.own tMl 10],.dead,.dead,.row true tMl (beg1 hs nd sz me nz n)],⟨rfl,by omega,rfl,rfl⟩,?_,?_⟩
      ·rintro n vs H ⟨hc2_0,rfl,rfl⟩ hn2
       replace hn2:n<(oth me 0 hs).length:=hn2
       have hbl:=beg1_len hs nd sz me nz n
       refine⟨rfl,rfl,⟨hmx.1,hmx.2⟩,rfl,rfl,rfl,rfl,w2',l9 (beg1 hs nd sz me nz n).length,w3',?_⟩
       exact⟨rfl,rfl,by omega,rfl,by rw [beg1_snoc hn2];rfl⟩
      ·rintro vs H ⟨hc2_0,rfl,rfl⟩
       refine⟨by kernel_rfl,w4',?_⟩
       have e:begE hs nd wr sz st ph me sh nz=0:=by unfold begE;rw [if_pos (nw h0),if_neg h1,if_pos ⟨nw h2,nw h3⟩]
       obtain⟨e1,e2,e3,e4,e5⟩:=beg_ok e
       have e6:begV hs nd wr sz st ph me sh nz=fil [] (fun _=>List.replicate hs.length []) hs.length k:=e4.trans (by rw [show k=hs.length by omega,fil_const])
       rw [e1,e2,e3,e6,e5,e]
       exact d4'
   ·refine⟨rfl,trivial,w4',?_⟩
    have e:begE hs nd wr sz st ph me sh nz=1:=by unfold begE;rw [if_pos (nw h0),if_neg h1,if_neg (fun g=>h2 g.1)]
    obtain⟨e1,e2,e3,e4,e5⟩:=beg_err (show begE hs nd wr sz st ph me sh nz≠0 by rw [e];decide)
    rw [e1,e2,e3,e4,e5,e]
    exact d4'
noncomputable def CBeg:List (Nat×Con):=(8,pureC [.v tTk,.v (.int .i64),.v .str,.v .str] sBeg)::CBg1
theorem kBeg:Known Tryd.prog (En CBeg tys G6 QOth):=Known.frz0<|(kBg1.frz [10000075,9000087,7100120]).addQ Tryd.func8 Tryd.call8 [.e [(2,(.sl .str)),(3,(.sl (.sl .str)))],.d tMl,.k] fun ds _ _ _ h=>by unfold sBeg at h;split at h;exact bBeg _ _ _ _ _ _ _ _ _;cases h
theorem vdL_mem {hs:List Int} {wr:Int} {es:Ps} {v:Int×Int×Unit}:∀k,k≤hs.length→v∈vdL hs wr es k→v.1∈hs
 |0,_,h=>by simp [vdL] at h
 | k+1,hk,h=>by
  rw [vdL] at h
  rcases List.mem_append.1 h with h|h
  ·exact vdL_mem k (by omega) h
  ·unfold vd1 at h
   split at h
   ·simp only [List.mem_singleton] at h
    subst h
    exact gmem 0 hs k (by omega)
   ·cases h
theorem dec_mem {hs:List Int} {nd wr sz st ph:Int} {l:List RP} {v:Int×Int×Unit} (h:v∈decL hs nd wr sz st ph l):v.1∈hs:=by
 unfold decL at h
 split at h
 ·exact vdL_mem _ (Nat.le_refl _) h
 ·cases h
theorem dec_len (hs:List Int) (nd wr sz st ph:Int) (l:List RP):(decL hs nd wr sz st ph l).length≤hs.length:=by
 unfold decL
 split
 ·exact vdL_len ..
 ·exact Nat.zero_le _
instance decMl1:DecidableEq (List (List UInt8)×Unit):=inferInstance
instance decMl2:DecidableEq (Int×(List (List UInt8)×Unit)):=inferInstance
instance decMl3:DecidableEq (Int×(Int×(List (List UInt8)×Unit))):=inferInstance
instance decMl4:DecidableEq (Int×(Int×(Int×(List (List UInt8)×Unit)))):=inferInstance
instance decMl5:DecidableEq Ml:=inferInstanceAs (DecidableEq (Int×(Int×(Int×(Int×(List (List UInt8)×Unit))))))
instance (e:Int×List Int) (k set h:Int):Decidable (bad1 e k set h):=by unfold bad1;infer_instance
def fitsB (es:Ps) (k set h:Int):Bool:=match mget es h with
 |none=>false
 |some ag=>decide ((((ag.getD k.toNat 0).toNat&&&(nxt set h).toNat:Nat):Int)=nxt set h)&&es.all fun e=>decide (¬bad1 e k set h)
theorem fitsB_iff {es:Ps} {k set h:Int}:fitsB es k set h=true↔fits es k set h:=by
 unfold fitsB fits
 cases hm:mget es h with
 |none=>exact⟨fun g=>Bool.noConfusion g,fun⟨_,g,_⟩=>by cases g⟩
 |some ag=>
  rw [Bool.and_eq_true,decide_eq_true_iff,List.all_eq_true]
  exact⟨fun⟨g1,g2⟩=>⟨ag,rfl,g1,fun e he=>of_decide_eq_true (g2 e he)⟩,fun⟨a,e,g1,g2⟩=>by cases e;exact⟨g1,fun e he=>decide_eq_true (g2 e he)⟩⟩
def clD (es:Ps) (k:Int):List Int→Int→Int→Int
 |[],set,more=>if more=0 then set else -1
 |h::l,set,more=>if more=0 then set else if fitsB es k set h=true then(if 0≤clD es k l (nxt set h) (more-1) then clD es k l (nxt set h) (more-1) else clD es k l set more) else clD es k l set more
theorem cl_D (es:Ps) (k:Int):∀(l:List Int) (set more:Int),cl es k l set more=clD es k l set more
 |[],set,more=>by
  rw [cl,clD]
 |a::l,set,more=>by
  rw [cl,clD,cl_D es k l,cl_D es k l]
  by_cases h:more=0
  ·repeat rw [if_pos h]
  repeat rw [if_neg h]
  by_cases g:fits es k set a
  ·rw [if_pos g,if_pos (fitsB_iff.2 g)]
  ·rw [if_neg g,if_neg (fun h=>g (fitsB_iff.1 h))]
def putD (hs:List Int) (es:Ps) (p:RP):Ps:=
 if mget es p.1=none∧(¬∃x∈p.2.1,wildE (allS hs) x)∧(p.2.1.length:Int)=(hs.length:Int)∧p.1∈hs then mput es p.1 p.2.1 else es
theorem put_D (hs:List Int):putP hs=putD hs:=by
 funext es p
 unfold putP putD
 by_cases h:mget es p.1=none∧(¬∃x∈p.2.1,wildE (allS hs) x)∧(p.2.1.length:Int)=(hs.length:Int)∧p.1∈hs
 ·repeat rw [if_pos h]
 ·repeat rw [if_neg h]
def vdD (hs:List Int) (wr:Int) (es:Ps):Nat→List (Int×Int×Unit)
 |0=> []
 |k+1=>vdD hs wr es k++(if 0≤clD es (k:Int) (hs.drop 0) 0 ((hs.length:Int)-wr) then [(hs.getD k 0,clD es (k:Int) (hs.drop 0) 0 ((hs.length:Int)-wr),())] else [])
theorem vd_D (hs:List Int) (wr:Int) (es:Ps):∀k,vdL hs wr es k=vdD hs wr es k
 |0=>rfl
 |k+1=>by rw [vdL,vdD,vd_D hs wr es k,vd1,cl_D]
def decD (hs:List Int) (nd wr sz st ph:Int) (l:List RP):List (Int×Int×Unit):=
 if tkE hs nd wr sz st ph=0 then vdD hs wr (l.foldl (putD hs) []) hs.length else []
theorem dec_D (hs:List Int) (nd wr sz st ph:Int) (l:List RP):decL hs nd wr sz st ph l=decD hs nd wr sz st ph l:=by
 unfold decL decD esL
 rw [vd_D,put_D]
section
def dcI (set:Int) (vk:List (List (List UInt8))) (p:Int×Int):Bool:=decide ((set/2^p.2.toNat)%2=1∧0<(vk.getD p.1.toNat []).length)
def dcX (set:Int) (vk:List (List (List UInt8))) (l:List (Int×Int)):List UInt8:=(l.filter (dcI set vk)).map fun p=>UInt8.ofNat ((p.2+1)%256).toNat
def dcV (set:Int) (vk:List (List (List UInt8))) (l:List (Int×Int)):List (List UInt8):=(l.filter (dcI set vk)).map fun p=>(vk.getD p.1.toNat []).getD 0 []
theorem dcX_yes {set:Int} {vk:List (List (List UInt8))} {l:List (Int×Int)} {n:Nat} (h:n<l.length) (hi:dcI set vk (l.getD n (0,0))=true):dcX set vk (l.take (n+1))=dcX set vk (l.take n)++ [UInt8.ofNat (((l.getD n (0,0)).2+1)%256).toNat]:=by
 unfold dcX
 rw [takeD (0,0) l n h,List.filter_append,List.map_append,List.filter_cons_of_pos hi,List.filter_nil];rfl
theorem dcV_yes {set:Int} {vk:List (List (List UInt8))} {l:List (Int×Int)} {n:Nat} (h:n<l.length) (hi:dcI set vk (l.getD n (0,0))=true):dcV set vk (l.take (n+1))=dcV set vk (l.take n)++ [(vk.getD (l.getD n (0,0)).1.toNat []).getD 0 []]:=by
 unfold dcV
 rw [takeD (0,0) l n h,List.filter_append,List.map_append,List.filter_cons_of_pos hi,List.filter_nil];rfl
theorem dc_no {set:Int} {vk:List (List (List UInt8))} {l:List (Int×Int)} {n:Nat} (h:n<l.length) (hi:¬dcI set vk (l.getD n (0,0))=true):dcX set vk (l.take (n+1))=dcX set vk (l.take n)∧dcV set vk (l.take (n+1))=dcV set vk (l.take n):=by
 unfold dcX dcV
 rw [takeD (0,0) l n h,List.filter_append,List.filter_cons_of_neg hi,List.filter_nil,List.append_nil]
 exact⟨rfl,rfl⟩
theorem dcX_len (set:Int) (vk:List (List (List UInt8))) (l:List (Int×Int)):(dcX set vk l).length≤l.length:=by
 unfold dcX
 rw [List.length_map]
 exact List.length_filter_le ..
theorem dcV_len (set:Int) (vk:List (List (List UInt8))) (l:List (Int×Int)):(dcV set vk l).length=(dcX set vk l).length:=by
 unfold dcX dcV
 rw [List.length_map,List.length_map]
theorem dcV_sz {set sz:Int} {vk:List (List (List UInt8))} {l:List (Int×Int)} (h:∀x∈vk,0<x.length→((x.getD 0 []).length:Int)=sz):∀v∈dcV set vk l,(v.length:Int)=sz:=fun v hv=>by
 unfold dcV at hv
 obtain⟨p,hp,rfl⟩:=List.mem_map.1 hv
 have hi:dcI set vk p=true:=(List.mem_filter.1 hp).2
 have hi:=(of_decide_eq_true hi).2
 by_cases g:p.1.toNat<vk.length
 ·exact h _ (gmem [] vk _ g) hi
 ·rw [List.getD_eq_getElem?_getD,List.getElem?_eq_none (by omega)] at hi
  exact absurd hi (by simp)
def dcY (vs:List (List UInt8)) (k:Nat):List UInt8:=vs.map fun v=>v.getD k 0
def dcC (xs:List UInt8) (vs:List (List UInt8)) (m w:Int) (k:Nat):List UInt8×List Int×Int:=decT xs (dcY vs k) (m-1) w
def dcP (xs:List UInt8) (vs:List (List UInt8)) (m w:Int) (k:Nat):List UInt8:=(dcC xs vs m w k).1++List.replicate m.toNat 0
def dcR (xs:List UInt8) (vs:List (List UInt8)) (m w:Int) (a n:Nat):List UInt8:=(List.range n).map fun k=>(dcP xs vs m w k).getD a 0
theorem dcR_snoc (xs:List UInt8) (vs:List (List UInt8)) (m w:Int) (a n:Nat):dcR xs vs m w a (n+1)=dcR xs vs m w a n++ [(dcP xs vs m w n).getD a 0]:=by
 unfold dcR
 rw [List.range_succ,List.map_append];rfl
theorem dcR_len (xs:List UInt8) (vs:List (List UInt8)) (m w:Int) (a n:Nat):(dcR xs vs m w a n).length=n:=by
 unfold dcR
 rw [List.length_map,List.length_range]
def dcW (wr m:Int) (xs:List UInt8):Int:=min wr (((xs.length:Int)-m)-wr)
def dcO (wr sz m:Int) (xs:List UInt8) (vs:List (List UInt8)):Prop:=m+wr≤(xs.length:Int)∧∀k:Nat,(k:Int)<sz→(dcC xs vs m (dcW wr m xs) k).2.2=0
open Classical in
noncomputable def dcL (wr sz m:Int) (xs:List UInt8) (vs:List (List UInt8)):List (List UInt8):=
 if dcO wr sz m xs vs then(List.range m.toNat).map fun a=>dcR xs vs m (dcW wr m xs) a sz.toNat else []
theorem dcY_fil {vs:List (List UInt8)} {k n:Nat} (h:n=vs.length):fil (0:UInt8) (fun i=>(vs.getD i []).getD k 0) n n=dcY vs k:=by
 subst h
 rw [fil_all]
 unfold dcY
 apply List.ext_getElem
 ·rw [List.length_map,List.length_map,List.length_range]
 ·intro i h1 h2
  rw [List.getElem_map,List.getElem_map,List.getElem_range]
  have hl:i<vs.length:=by simpa using h2
  rw [show vs.getD i []=vs[i] from gD hl]
end
theorem dcX_nx {set:Int} {vk:List (List (List UInt8))} {l:List (Int×Int)} {n:Nat} {X:List UInt8} (e:X=dcX set vk (l.take n)) (h:n<l.length) (hi:dcI set vk (l.getD n (0,0))=true):X++ [UInt8.ofNat (((l.getD n (0,0)).2+1)%256).toNat]=dcX set vk (l.take (n+1)):=by rw [dcX_yes h hi,e]
theorem dcV_nx {set:Int} {vk:List (List (List UInt8))} {l:List (Int×Int)} {n:Nat} {U:List (List UInt8)} (e:U=dcV set vk (l.take n)) (h:n<l.length) (hi:dcI set vk (l.getD n (0,0))=true):U++ [(vk.getD (l.getD n (0,0)).1.toNat []).getD 0 []]=dcV set vk (l.take (n+1)):=by rw [dcV_yes h hi,e]
theorem ixp {P:List UInt8} {m:Nat} {a:Int} (h:(decide (0≤a)&&decide (a<m))=true:=by kernel_rfl):0≤a∧a<((P++List.replicate m (0:UInt8)).length:Int):=by
 rw [Bool.and_eq_true,decide_eq_true_eq,decide_eq_true_eq] at h
 rw [List.length_append,List.length_replicate]
 omega
theorem l9r {X:List UInt8} {U:List (List UInt8)} {m w:Int} {a k:Nat} (h:k≤4096:=by omega):(dcR X U m w a k).length+1≤1000000000:=by rw [dcR_len];omega
theorem dcL_no {wr sz m:Int} {X:List UInt8} {U:List (List UInt8)} (h:¬dcO wr sz m X U):dcL wr sz m X U= []:=if_neg h
theorem dcO_no {wr sz m:Int} {X:List UInt8} {U:List (List UInt8)} (h:¬dcO wr sz m X U):dcO wr sz m X U=(false=true):=propext ⟨fun g=>absurd g h,fun g=>Bool.noConfusion g⟩
theorem dcL_yes {wr sz m:Int} {X:List UInt8} {U:List (List UInt8)} (h:dcO wr sz m X U):dcL wr sz m X U=(List.range m.toNat).map fun a=>dcR X U m (dcW wr m X) a sz.toNat:=if_pos h
theorem dcO_yes {wr sz m:Int} {X:List UInt8} {U:List (List UInt8)} (h:dcO wr sz m X U):dcO wr sz m X U=(true=true):=propext ⟨fun _=>rfl,fun _=>h⟩
def dB (hs:List Int) (nd wr sz st ph me:Int) (sh:List UInt8) (rows:List (List (List UInt8))) (vals:List (List (List (List UInt8)))) (pl set:Int) (X:List UInt8) (U:List (List UInt8)) (w:Int) (m k:Nat):List Blk:=
 [cTk hs nd wr sz st ph,cSt me sh rows vals,.cells [.i pl],.cells [.i set],.cells [.own .u8 8],.cells [.own .str 9],.dead,.dead,.r .u8 X,.r .str U,.cells ((List.range m).map fun a=> .own .u8 (11+a))]++(List.range m).map fun a=> .r .u8 (dcR X U m w a k)
theorem dB_snoc {hs:List Int} {nd wr sz st ph me:Int} {sh:List UInt8} {rows:List (List (List UInt8))} {vals:List (List (List (List UInt8)))} {pl set:Int} {X:List UInt8} {U:List (List UInt8)} {w:Int} {m k:Nat} {P:List UInt8} (h:dcP X U m w k=P):dB hs nd wr sz st ph me sh rows vals pl set X U w m (k+1)=
  [cTk hs nd wr sz st ph,cSt me sh rows vals,.cells [.i pl],.cells [.i set],.cells [.own .u8 8],.cells [.own .str 9],.dead,.dead,.r .u8 X,.r .str U,.cells ((List.range m).map fun a=> .own .u8 (11+a))]++(List.range m).map fun a=> .r .u8 (dcR X U m w a k++ [P.getD a 0]):=by
 unfold dB
 simp only [dcR_snoc,h]
theorem bDcm {m:Nat} [Sz m] (hm:1≤m∧m≤6) (hs:List Int) (nd wr sz st ph me:Int) (sh:List UInt8) (rows:List (List (List UInt8))) (vals:List (List (List (List UInt8)))) (pl set:Int) (hnd:nd=m+1) (hp0:hs.length≤12) (hp1:(∀x∈hs,0≤x∧x<12)) (hp2:vals.length=hs.length) (hp3:(∀x∈vals,x.length=hs.length)) (hp4:0≤wr) (hp5:wr≤12) (hp6:1≤sz) (hp7:sz≤4096) (hp8:0≤pl) (hp9:pl<(hs.length:Int)) (hp10:0≤set) (hp11:set<4096) (hp12:(∀v∈vals,∀x∈v,0<x.length→((x.getD 0 []).length:Int)=sz)):bodyP (En CBeg tys G6 QOth [1000000,1000001]) Tryd.f47 [.d .str,.k] [aTk hs nd wr sz st ph,aSt me sh rows vals,.int .i64 pl,.int .i64 set] (.tup [.sl true .str (dcL wr sz m (dcX set (vals.getD pl.toNat []) (oth me 0 hs)) (dcV set (vals.getD pl.toNat []) (oth me 0 hs))),.b (dcO wr sz m (dcX set (vals.getD pl.toNat []) (oth me 0 hs)) (dcV set (vals.getD pl.toNat []) (oth me 0 hs)))]) []:=by
 have hol:=oth_len me hs 0
 have hkv:=hp3 _ (gmem [] vals pl.toNat (by omega))
 have hXl:=dcX_len set (vals.getD pl.toNat []) (oth me 0 hs)
 have hVl:=dcV_len set (vals.getD pl.toNat []) (oth me 0 hs)
 have hVs:=dcV_sz (l:=(oth me 0 hs)) (set:=set) (hp12 _ (gmem [] vals pl.toNat (by omega)))
 have hT:(oth me 0 hs).take (oth me 0 hs).length=(oth me 0 hs):=List.take_length
 subst hnd
 obtain rfl|rfl|rfl|rfl|rfl|rfl:m=1∨m=2∨m=3∨m=4∨m=5∨m=6:=by omega
 all_goals
  have hS:=mSq
  refine⟨q64,rfl,rfl,rfl,rfl,rfl,rfl,trivial,rfl,rfl,rfl,rfl,rfl,rfl,rfl,⟨om (hs.length≤2000000),fun _ _=>rfl⟩,10, [(4,.k),(5,.k),(6,.k),(7,.k),(10,.k),(11,.c [(0,.u8)]),(12,.c [(0,.str)])],fun n vs H=>∃(X:List UInt8) (U:List (List UInt8)),(n≤(oth me 0 hs).length∧X=dcX set (vals.getD pl.toNat []) ((oth me 0 hs).take n)∧U=dcV set (vals.getD pl.toNat []) ((oth me 0 hs).take n))∧vs= [.p 0,.p 1,.p 2,.p 3,.i mS,.p 4,.p 5]∧H= [cTk hs (mS+1) wr sz st ph,cSt me sh rows vals,.cells [.i pl],.cells [.i set],.cells [.own .u8 8],.cells [.own .str 9],.dead,.dead,.r .u8 X,.r .str U],⟨rfl, [], [],⟨Nat.zero_le _,rfl,rfl⟩,rfl,rfl⟩,?_,?_⟩
  ·rintro n vs H ⟨X,U,⟨hc1_0,hX,hU⟩,rfl,rfl⟩ hn1
   replace hn1:n<(oth me 0 hs).length:=hn1
   obtain⟨i,hi,e1,e2,e3⟩:=oth_mem hs 0 (gmem (0,0) (oth me 0 hs) n hn1)
   obtain⟨g0,g1⟩:=hp1 _ (gmem 0 hs i hi)
   rw [←e2] at g0 g1
   obtain⟨q0,q1⟩:=pw12 g0 g1
   have hxl:=dcX_len set (vals.getD pl.toNat []) ((oth me 0 hs).take n)
   have hvl:=dcV_len set (vals.getD pl.toNat []) ((oth me 0 hs).take n)
   rw [List.length_take,←hX] at hxl
   rw [←hX,←hU] at hvl
   refine⟨ix pl vals.length,ix ((oth me 0 hs).getD n (0,0)).1 (vals.getD pl.toNat []).length,⟨om (0≤((oth me 0 hs).getD n (0,0)).2),om (((oth me 0 hs).getD n (0,0)).2≤64)⟩,.inr ⟨rfl,?_⟩⟩
   refine yn (set/2^((oth me 0 hs).getD n (0,0)).2.toNat%2=1) (fun h0=> ?_) fun h0=> ?_
   ·refine yn (0<(((vals.getD pl.toNat []).getD ((oth me 0 hs).getD n (0,0)).1.toNat []).length:Int)) (fun h1=> ?_) fun h1=> ?_
    ·have hy:dcI set (vals.getD pl.toNat []) ((oth me 0 hs).getD n (0,0))=true:=decide_eq_true ⟨h0,by omega⟩
     refine⟨by kernel_rfl,r64 (((oth me 0 hs).getD n (0,0)).2+1),w2',l9 X.length,ix 0 ((vals.getD pl.toNat []).getD ((oth me 0 hs).getD n (0,0)).1.toNat []).length,w2',l9 U.length,w3',w3',?_⟩
     exact⟨rfl,rfl,_,_,⟨by omega,dcX_nx hX hn1 hy,dcV_nx hU hn1 hy⟩,rfl,rfl⟩
    have hy:¬dcI set (vals.getD pl.toNat []) ((oth me 0 hs).getD n (0,0))=true:=fun g=>h1 (by have:=(of_decide_eq_true g).2;omega)
    exact⟨rfl,rfl,_,_,⟨by omega,hX.trans (dc_no hn1 hy).1.symm,hU.trans (dc_no hn1 hy).2.symm⟩,rfl,rfl⟩
   have hy:¬dcI set (vals.getD pl.toNat []) ((oth me 0 hs).getD n (0,0))=true:=fun g=>h0 (of_decide_eq_true g).1
   exact⟨rfl,rfl,_,_,⟨by omega,hX.trans (dc_no hn1 hy).1.symm,hU.trans (dc_no hn1 hy).2.symm⟩,rfl,rfl⟩
  rintro vs H ⟨X,U,⟨hc1_0,hX,hU⟩,rfl,rfl⟩
  replace hX:X=dcX set (vals.getD pl.toNat []) (oth me 0 hs):=hX.trans (congrArg (dcX set (vals.getD pl.toNat [])) hT)
  replace hU:U=dcV set (vals.getD pl.toNat []) (oth me 0 hs):=hU.trans (congrArg (dcV set (vals.getD pl.toNat [])) hT)
  rw [←hX] at hXl hVl
  rw [←hU] at hVl hVs
  refine⟨r64 (mS+wr),yn ((X.length:Int)<mS+wr) (fun h2=> ?_) fun h2=> ?_⟩
  ·have hN:¬dcO wr sz mS X U:=fun g=>by have:=g.1;omega
   exact⟨rfl,rfl,by rw [←hX,←hU,dcL_no hN,dcO_no hN];rfl,rfl⟩
  refine⟨r64 (X.length-mS),r64 (X.length-mS-wr),⟨rfl,qd,qd⟩,.inl ?_⟩
  refine⟨11+mS, [(10,.k),(11,.k),(12,.k),(16,.k),(17,.c ((List.range mS).map fun a=>(a,.u8))),(88,.k),(89,.k)],fun nM vs H=>∃(k:Nat) (w:Int),((k:Int)≤sz∧w=dcW wr mS X∧∀j:Nat,j<k→(dcC X U mS w j).2.2=0)∧nM=sz.toNat-k∧vs= [.i mS,.p 4,.p 5,.i w,.own (.sl .u8) 10,.i sz,.i k]∧H=dB hs (mS+1) wr sz st ph me sh rows vals pl set X U w mS k,⟨rfl,sz.toNat,0,_,⟨by omega,rfl,fun j hj=>absurd hj (by omega)⟩,rfl,rfl,rfl⟩,?_⟩
  rintro nM vs H ⟨k,w,⟨hc2_0,hw,hc2_1⟩,rfl,rfl,rfl⟩
  refine yn ((k:Int)<sz) (fun h3=> ?_) fun h3=> ?_
  ·refine⟨⟨rfl,om ((0:Int)≤(X.length:Int)),om ((X.length:Int)≤1000000000)⟩,.inl ?_⟩
   refine⟨12+mS, [(10,.k),(11,.k),(12,.k),(16,.k),(17,.k),(18,.k),(19,.k),(88,.k),(89,.k),(95,.o .str),(96,.k),(97,.k)],fun nM vs H=>∃(i:Nat) (Y:List UInt8),(i≤U.length∧Y=fil (0:UInt8) (fun i=>(U.getD i []).getD k 0) X.length i)∧nM=U.length-i∧vs= [.i mS,.p 4,.p 5,.i w,.own (.sl .u8) 10,.i k,.own .u8 (11+mS),.i sz,.i k,.own .str 9,.i U.length,.i i]∧H=dB hs (mS+1) wr sz st ph me sh rows vals pl set X U w mS k++ [.r .u8 Y],⟨rfl,U.length,0,_,⟨by omega,(fil_zero ..).symm⟩,by omega,rfl,rfl⟩,?_⟩
   rintro nM vs H ⟨i,Y,⟨hc3_0,hY⟩,rfl,rfl,rfl⟩
   have hyl:Y.length=X.length:=by rw [hY,fil_len]
   refine yn ((i:Int)<(U.length:Int)) (fun h4=> ?_) fun h4=> ?_
   ·have hvi:=hVs _ (gmem [] U i (by omega))
    refine⟨ix i U.length,ix k (U.getD i []).length,ix i Y.length,w2',r64 (i+1),?_⟩
    exact⟨rfl,U.length-(i+1),by omega,i+1,_,⟨by omega,by rw [hY];exact fil_set (f:=fun i=>(U.getD i []).getD k 0) (by omega)⟩,rfl,rfl,rfl⟩
   have hy:Y=dcY U k:=by rw [hY,show i=X.length by omega];exact dcY_fil (by omega)
   have hC:dcC X U mS w k=decT X Y (mS-1) w:=by unfold dcC;rw [hy]
   refine⟨q64,rfl,rfl,⟨om (X.length≤10000),om (Y.length≤10000),dec_some _ _ (by omega) _ _⟩,yn ((decT X Y (mS-1) w).2.2≠0) (fun h5=> ?_) fun h5=> ?_⟩
   ·have hN:¬dcO wr sz mS X U:=fun g=>by have:=g.2 k (by omega);rw [←hw,hC] at this;exact h5 this
    exact⟨rfl,rfl,by rw [←hX,←hU,dcL_no hN,dcO_no hN];rfl,rfl⟩
   have hP:dcP X U mS w k=(decT X Y (mS-1) w).1++List.replicate mS 0:=by unfold dcP;rw [hC];rfl
   have hdt:=decT_len (ys:=Y) (d:=(mS:Int)-1) (w:=w) (show X.length≤10000 by omega)
   have hall:∀j:Nat,j<k+1→(dcC X U mS w j).2.2=0:=fun j hj=>by
    rcases Nat.lt_or_ge j k with g|g
    ·exact hc2_1 j g
    ·obtain rfl:j=k:=by omega
     rw [hC];exact nw h5
   refine⟨w2',⟨qd,om ((decT X Y (mS-1) w).1.length+mS≤1000000000)⟩,.inr ?_⟩
   refine ya ?_
   repeat refine⟨by kernel_rfl,qi,ixp,w2',l9r,qi,w3',q64,ye ?_⟩
   refine⟨by kernel_rfl,qi,ixp,w2',l9r,qi,w3',q64,na ?_⟩
   refine⟨r64 (k+1),?_⟩
   exact⟨rfl,sz.toNat-(k+1),by omega,k+1,w,⟨by omega,hw,hall⟩,rfl,rfl,by rw [dB_snoc hP];rfl⟩
  refine .inr ?_
  refine ya ?_
  first|refine⟨qi,lq,q64,ye ?_⟩|refine⟨qi,lq,q64,na ?_⟩
  repeat refine⟨qi,w2',lq,q64,ye ?_⟩
  try refine⟨qi,w2',lq,q64,nf ?_⟩
  have hO:dcO wr sz mS X U:=⟨by omega,fun j hj=>by rw [←hw];exact hc2_1 j (by omega)⟩
  exact⟨rfl,rfl,by rw [←hX,←hU,dcL_yes hO,dcO_yes hO,←hw,show sz.toNat=k by omega];rfl,rfl⟩
noncomputable def sDcd:List V→Option (Prop×V×List Blk)
 |[.agg [.sl false (.int .i64) hs,.int .i64 nd,.int .i64 wr,.int .i64 sz,.int .i64 st,.int .i64 ph],.agg [.int .i64 me,.str sh,.sl false (.sl .str) rows,.sl false (.sl (.sl .str)) vals],.int .i64 pl,.int .i64 set]=>some (hs.length≤12∧(∀x∈hs,0≤x∧x<12)∧vals.length=hs.length∧(∀x∈vals,x.length=hs.length)∧0≤wr∧wr≤12∧1≤sz∧sz≤4096∧0≤pl∧pl<(hs.length:Int)∧0≤set∧set<4096∧(∀v∈vals,∀x∈v,0<x.length→((x.getD 0 []).length:Int)=sz)∧2≤nd∧nd≤7,.tup [.sl true .str (dcL wr sz (nd-1) (dcX set (vals.getD (pl).toNat []) (oth me 0 hs)) (dcV set (vals.getD (pl).toNat []) (oth me 0 hs))),.b (dcO wr sz (nd-1) (dcX set (vals.getD (pl).toNat []) (oth me 0 hs)) (dcV set (vals.getD (pl).toNat []) (oth me 0 hs)))], [])
 |_=>none
theorem bDcd (hs:List Int) (nd wr sz st ph me:Int) (sh:List UInt8) (rows:List (List (List UInt8))) (vals:List (List (List (List UInt8)))) (pl:Int) (set:Int) (hp0:hs.length≤12) (hp1:(∀x∈hs,0≤x∧x<12)) (hp2:vals.length=hs.length) (hp3:(∀x∈vals,x.length=hs.length)) (hp4:0≤wr) (hp5:wr≤12) (hp6:1≤sz) (hp7:sz≤4096) (hp8:0≤pl) (hp9:pl<(hs.length:Int)) (hp10:0≤set) (hp11:set<4096) (hp12:(∀v∈vals,∀x∈v,0<x.length→((x.getD 0 []).length:Int)=sz)) (hp13:2≤nd) (hp14:nd≤7):bodyP (En CBeg tys G6 QOth [1000000,1000001]) Tryd.f47 [.d .str,.k] [aTk hs nd wr sz st ph,aSt me sh rows vals,.int .i64 pl,.int .i64 set] (.tup [.sl true .str (dcL wr sz (nd-1) (dcX set (vals.getD (pl).toNat []) (oth me 0 hs)) (dcV set (vals.getD (pl).toNat []) (oth me 0 hs))),.b (dcO wr sz (nd-1) (dcX set (vals.getD (pl).toNat []) (oth me 0 hs)) (dcV set (vals.getD (pl).toNat []) (oth me 0 hs)))]) []:=by
 obtain⟨m,hm⟩:∃m:Nat,nd-1=m:=⟨(nd-1).toNat,by omega⟩
 rw [hm]
 exact @bDcm m ⟨trivial⟩ (by omega) hs nd wr sz st ph me sh rows vals pl set (by omega) hp0 hp1 hp2 hp3 hp4 hp5 hp6 hp7 hp8 hp9 hp10 hp11 hp12
noncomputable def CDcd:List (Nat×Con):=(47,pureC [.v tTk,.v tSt,.v (.int .i64),.v (.int .i64)] sDcd)::CBeg
theorem kDcd:Known Tryd.prog (En CDcd tys G6 QOth):=Known.frz0<|(kBeg.frz [1000000,1000001]).add Tryd.func47 Tryd.call47 [.d .str,.k] fun ds p v bs h hp=>by
 unfold sDcd at h
 split at h<;>simp only [Option.some.injEq,Prod.mk.injEq,reduceCtorEq] at h
 obtain⟨rfl,rfl,rfl⟩:=h
 exact bDcd _ _ _ _ _ _ _ _ _ _ _ _ hp.1 hp.2.1 hp.2.2.1 hp.2.2.2.1 hp.2.2.2.2.1 hp.2.2.2.2.2.1 hp.2.2.2.2.2.2.1 hp.2.2.2.2.2.2.2.1 hp.2.2.2.2.2.2.2.2.1 hp.2.2.2.2.2.2.2.2.2.1 hp.2.2.2.2.2.2.2.2.2.2.1 hp.2.2.2.2.2.2.2.2.2.2.2.1 hp.2.2.2.2.2.2.2.2.2.2.2.2.1 hp.2.2.2.2.2.2.2.2.2.2.2.2.2.1 hp.2.2.2.2.2.2.2.2.2.2.2.2.2.2
theorem oth_snd (x:Int):∀(l:List Int) (k:Nat),(oth x k l).map (·.2)=l.filter fun h=>decide (h≠x)
 |[],k=>rfl
 |a::l,k=>by
  rw [oth]
  by_cases h:a=x
  ·rw [if_pos h,oth_snd x l (k+1),List.filter_cons_of_neg (by simp [h])]
  ·rw [if_neg h,List.map_cons,oth_snd x l (k+1),List.filter_cons_of_pos (by simp [h])]
def cmpI (hs:List Int) (me:Int) (r:List (List UInt8)) (d:Int) (i:Nat):List Ml:=((hs.take i).filter fun h=>decide (h≠me)).map fun h=>(2,(me,(h,(d,([valS r h],())))))
theorem cmpI_yes {hs:List Int} {me:Int} {r:List (List UInt8)} {d:Int} {i:Nat} (h:i<hs.length) (hi:hs.getD i 0≠me):cmpI hs me r d (i+1)=cmpI hs me r d i++ [(2,(me,(hs.getD i 0,(d,([valS r (hs.getD i 0)],())))))]:=by
 unfold cmpI
 rw [takeD 0 hs i h,List.filter_append,List.map_append,List.filter_cons_of_pos (by simpa using hi)];rfl
theorem cmpI_no {hs:List Int} {me:Int} {r:List (List UInt8)} {d:Int} {i:Nat} (h:i<hs.length) (hi:¬hs.getD i 0≠me):cmpI hs me r d (i+1)=cmpI hs me r d i:=by
 unfold cmpI
 rw [takeD 0 hs i h,List.filter_append,List.filter_cons_of_neg (by simpa using hi),List.filter_nil,List.append_nil]
theorem cmpI_len (hs:List Int) (me:Int) (r:List (List UInt8)) (d:Int) (i:Nat):(cmpI hs me r d i).length≤hs.length:=by
 unfold cmpI
 rw [List.length_map]
 have:=List.length_filter_le (fun h=>decide (h≠me)) (hs.take i)
 rw [List.length_take] at this
 omega
theorem cmpI_all (hs:List Int) (me:Int) (r:List (List UInt8)) (d:Int):cmpI hs me r d hs.length=cmp1 hs me r d (oth me 0 hs).length:=by
 unfold cmpI cmp1
 rw [List.take_length,List.take_length,←oth_snd me hs 0,List.map_map];rfl
def cmpJ (hs:List Int) (me:Int) (rows:List (List (List UInt8))) (k i:Nat):List Ml:=if(rows.getD k []).length=0 then [] else cmpI hs me (rows.getD k []) (hs.getD k 0) i
theorem cmpJ_zero (hs:List Int) (me:Int) (rows:List (List (List UInt8))) (k:Nat):cmpJ hs me rows k 0= []:=by
 unfold cmpJ
 split<;>rfl
theorem cmpJ_all (hs:List Int) (me:Int) (rows:List (List (List UInt8))) (k:Nat):cmpK hs me rows (k+1)=cmpK hs me rows k++cmpJ hs me rows k hs.length:=by
 rw [cmpK,cmpJ,cmpI_all]
theorem cmpJ_yes {A:List Ml} {hs:List Int} {me:Int} {rows:List (List (List UInt8))} {k i:Nat} (h:i<hs.length) (hr:¬(rows.getD k []).length=0) (hi:hs.getD i 0≠me):
  A++cmpJ hs me rows k (i+1)=A++cmpJ hs me rows k i++ [(2,(me,(hs.getD i 0,(hs.getD k 0,([valS (rows.getD k []) (hs.getD i 0)],())))))]:=by
 unfold cmpJ
 rw [if_neg hr,if_neg hr,cmpI_yes h hi,List.append_assoc]
theorem cmpJ_no {hs:List Int} {me:Int} {rows:List (List (List UInt8))} {k i:Nat} (h:i<hs.length) (hi:(rows.getD k []).length=0∨¬hs.getD i 0≠me):cmpJ hs me rows k (i+1)=cmpJ hs me rows k i:=by
 unfold cmpJ
 by_cases hr:(rows.getD k []).length=0
 ·rw [if_pos hr,if_pos hr]
 ·rw [if_neg hr,if_neg hr,cmpI_no h (hi.resolve_left hr)]
theorem cmpJ_len (hs:List Int) (me:Int) (rows:List (List (List UInt8))) (k i:Nat):(cmpJ hs me rows k i).length≤hs.length:=by
 unfold cmpJ
 split
 ·exact Nat.zero_le _
 ·exact cmpI_len ..
def rbR (hs:List Int) (nd sz me:Int) (nz:List UInt8) (k:Nat):List (List (List UInt8)):=(hs.take k).map fun h=>if h=me then rowL (mkN nd sz nz) (mkC nd sz nz) me else []
theorem rbR_snoc {hs:List Int} {nd sz me:Int} {nz:List UInt8} {k:Nat} (h:k<hs.length):rbR hs nd sz me nz (k+1)=rbR hs nd sz me nz k++ [if hs.getD k 0=me then rowL (mkN nd sz nz) (mkC nd sz nz) me else []]:=by
 unfold rbR
 rw [map_take_snoc 0 _ _ k h]
theorem rbR_len (hs:List Int) (nd sz me:Int) (nz:List UInt8) (k:Nat):(rbR hs nd sz me nz k).length≤hs.length:=by
 unfold rbR
 rw [List.length_map,List.length_take]
 omega
theorem rbR_all {hs:List Int} (hh:hsF (-1) hs=true) {me:Int} (hm:me∈hs) (nd sz:Int) (nz:List UInt8):
  rbR hs nd sz me nz hs.length=(List.replicate hs.length []).set (idxF me hs 0).toNat (rowL (mkN nd sz nz) (mkC nd sz nz) me):=by
 obtain⟨p0,p1,p2⟩:=pos_of hm
 unfold rbR
 rw [List.take_length]
 apply List.ext_getElem
 ·simp
 ·intro i h1 h2
  rw [List.getElem_map,List.getElem_set]
  have hi:i<hs.length:=by simpa using h1
  by_cases e:(idxF me hs 0).toNat=i
  ·rw [if_pos e,if_pos (by rw [←gD (d:=0) hi,←e,p2])]
  ·rw [if_neg e,if_neg (fun g=>e (nodup_hs hh p1 hi (by rw [p2,gD hi,g]))),List.getElem_replicate]
def rbM (hs:List Int) (nd sz me:Int) (nz:List UInt8) (k:Nat):List Ml:=((hs.take k).filter fun h=>decide (h≠me)).map fun h=>(1,(me,(h,(me,(rowL (mkN nd sz nz) (mkC nd sz nz) h,())))))
theorem rbM_yes {hs:List Int} {nd sz me:Int} {nz:List UInt8} {k:Nat} (h:k<hs.length) (hi:hs.getD k 0≠me):rbM hs nd sz me nz (k+1)=rbM hs nd sz me nz k++ [(1,(me,(hs.getD k 0,(me,(rowL (mkN nd sz nz) (mkC nd sz nz) (hs.getD k 0),())))))]:=by
 unfold rbM
 rw [takeD 0 hs k h,List.filter_append,List.map_append,List.filter_cons_of_pos (by simpa using hi)];rfl
theorem rbM_no {hs:List Int} {nd sz me:Int} {nz:List UInt8} {k:Nat} (h:k<hs.length) (hi:hs.getD k 0=me):rbM hs nd sz me nz (k+1)=rbM hs nd sz me nz k:=by
 unfold rbM
 rw [takeD 0 hs k h,List.filter_append,List.filter_cons_of_neg (by simpa using hi),List.filter_nil,List.append_nil]
theorem rbM_len (hs:List Int) (nd sz me:Int) (nz:List UInt8) (k:Nat):(rbM hs nd sz me nz k).length≤hs.length:=by
 unfold rbM
 rw [List.length_map]
 have:=List.length_filter_le (fun h=>decide (h≠me)) (hs.take k)
 rw [List.length_take] at this
 omega
theorem rbM_all (hs:List Int) (nd sz me:Int) (nz:List UInt8):rbM hs nd sz me nz hs.length=beg1 hs nd sz me nz (oth me 0 hs).length:=by
 unfold rbM beg1
 rw [List.take_length,List.take_length,←oth_snd me hs 0,List.map_map];rfl
theorem repl_snoc {α:Type} (k:Nat) (x:α):List.replicate (k+1) x=List.replicate k x++ [x]:=List.replicate_succ'
end Go.Proofs.YtlmegkgkipjgbaaDoor.S33c

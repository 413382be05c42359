/- Texts of this claim. -/
import Derived.Test.YtlmegkgkipjgbaaDoorS1
import Derived.Test.YtlmegkgkipjgbaaDoorS5
import Derived.Test.YtlmegkgkipjgbaaDoorS6
import Derived.Test.YtlmegkgkipjgbaaDoorVc10
import Derived.Test.YtlmegkgkipjgbaaDoorCards
import Derived.Test.YtlmegkgkipjgbaaDoorTie
import Derived.WalkKit
import Derived.ProofKit
import Derived.OpenShut
import Derived.Deep.DeepHandedRow
import Derived.Lib.LaidTab
set_option linter.unusedVariables false
set_option linter.unusedSimpArgs false
namespace Go.Proofs.YtlmegkgkipjgbaaDoor.S33c
set_option maxHeartbeats 20000000
open Go Go.Proofs.YtlmegkgkipjgbaaDoor.Vc Go.Proofs Go.Proofs.YtlmegkgkipjgbaaDoor.S33
set_option maxRecDepth 100000
def prs:Nat→List Int→List (Int×Int)
 |_, []=> []
 |k,h::l=>((k:Int),h)::prs (k+1) l
theorem prs_len:∀(l:List Int) (k:Nat),(prs k l).length=l.length
 |[],_=>rfl
 |_::l,k=>by rw [prs,List.length_cons,List.length_cons,prs_len l]
theorem prs_get:∀(l:List Int) (k i:Nat),i<l.length→(prs k l).getD i (0,0)=(((k+i:Nat):Int),l.getD i 0)
 |[],_,_,h=>absurd h (by simp)
 |_::_,_,0,_=>rfl
 |_::l,k,i+1,h=>by
  have:=prs_get l (k+1) i (by simpa using h)
  rw [show k+1+i=k+(i+1) by omega] at this
  exact this
theorem dc_prs {set me:Int} (vk:List (List (List UInt8))) (h:¬(set/2^me.toNat)%2=1):∀(l:List Int) (k:Nat),(prs k l).filter (dcI set vk)=(oth me k l).filter (dcI set vk)
 |[],_=>rfl
 | a::l,k=>by
  rw [prs,oth]
  by_cases e:a=me
  ·subst e
   rw [if_pos rfl,List.filter_cons_of_neg (fun g=>h (of_decide_eq_true g).1),dc_prs vk h l]
  ·rw [if_neg e,List.filter_cons,List.filter_cons,dc_prs vk h l]
theorem dcX_prs {set me:Int} {vk:List (List (List UInt8))} {hs:List Int} {X:List UInt8} {k:Nat} (h:¬(set/2^me.toNat)%2=1) (hk:hs.length≤k) (hX:X=dcX set vk ((prs 0 hs).take k)):dcX set vk (oth me 0 hs)=X:=by
 rw [hX,List.take_of_length_le (by rw [prs_len];omega)]
 unfold dcX
 rw [dc_prs vk h]
theorem dcV_prs {set me:Int} {vk:List (List (List UInt8))} {hs:List Int} {X:List (List UInt8)} {k:Nat} (h:¬(set/2^me.toNat)%2=1) (hk:hs.length≤k) (hX:X=dcV set vk ((prs 0 hs).take k)):dcV set vk (oth me 0 hs)=X:=by
 rw [hX,List.take_of_length_le (by rw [prs_len];omega)]
 unfold dcV
 rw [dc_prs vk h]
theorem prs_yes {set:Int} {vk:List (List (List UInt8))} {hs:List Int} {X:List UInt8} {U:List (List UInt8)} {k:Nat} (hk:k<hs.length) (h1:(set/2^(hs.getD k 0).toNat)%2=1) (h2:0<(vk.getD k []).length)
  (hX:X=dcX set vk ((prs 0 hs).take k)) (hU:U=dcV set vk ((prs 0 hs).take k)):
  X++ [UInt8.ofNat ((hs.getD k 0+1)%256).toNat]=dcX set vk ((prs 0 hs).take (k+1))∧U++ [(vk.getD k []).getD 0 []]=dcV set vk ((prs 0 hs).take (k+1)):=by
 have hl:k<(prs 0 hs).length:=by rw [prs_len];exact hk
 have hg:(prs 0 hs).getD k (0,0)=((k:Int),hs.getD k 0):=by rw [prs_get hs 0 k hk,Nat.zero_add]
 have hi:dcI set vk ((prs 0 hs).getD k (0,0))=true:=by rw [hg];exact decide_eq_true ⟨h1,h2⟩
 rw [dcX_yes hl hi,dcV_yes hl hi,←hX,←hU,hg]
 exact⟨rfl,rfl⟩
theorem prs_no {set:Int} {vk:List (List (List UInt8))} {hs:List Int} {X:List UInt8} {U:List (List UInt8)} {k:Nat} (hk:k<hs.length) (h:¬((set/2^(hs.getD k 0).toNat)%2=1∧0<(vk.getD k []).length))
  (hX:X=dcX set vk ((prs 0 hs).take k)) (hU:U=dcV set vk ((prs 0 hs).take k)):
  X=dcX set vk ((prs 0 hs).take (k+1))∧U=dcV set vk ((prs 0 hs).take (k+1)):=by
 have hl:k<(prs 0 hs).length:=by rw [prs_len];exact hk
 have hg:(prs 0 hs).getD k (0,0)=((k:Int),hs.getD k 0):=by rw [prs_get hs 0 k hk,Nat.zero_add]
 have hi:¬dcI set vk ((prs 0 hs).getD k (0,0))=true:=by rw [hg];exact fun g=>h (of_decide_eq_true g)
 rw [(dc_no hl hi).1,(dc_no hl hi).2]
 exact⟨hX,hU⟩
noncomputable def rwL (hs:List Int) (nd wr sz me:Int) (rows:List (List (List UInt8))) (vals:List (List (List (List UInt8)))) (vd set:Int):List (List UInt8):=
 if(set/2^me.toNat)%2=1 then rows.getD (idxF vd hs 0).toNat [] else dcL wr sz (nd-1) (dcX set (vals.getD (idxF vd hs 0).toNat []) (oth me 0 hs)) (dcV set (vals.getD (idxF vd hs 0).toNat []) (oth me 0 hs))
theorem dcP_get (xs:List UInt8) (vs:List (List UInt8)) (m w:Int) (k a:Nat):(dcP xs vs m w k).getD a 0=(dcC xs vs m w k).1.getD a 0:=by
 unfold dcP
 rw [List.getD_eq_getElem?_getD,List.getD_eq_getElem?_getD,List.getElem?_append]
 split
 ·rfl
 ·rw [List.getElem?_eq_none (by omega:(dcC xs vs m w k).1.length≤a),List.getElem?_replicate]
  split<;>rfl
theorem dcC_ref {xs:List UInt8} {vs:List (List UInt8)} {ys:List UInt8} {m w d:Int} {k:Nat} (hx:xs.length≤12) (hy:ys=dcY vs k) (hd:d=m-1):dcC xs vs m w k=rdecL xs ys d w:=by
 unfold dcC decT
 rw [←hy,←hd,dec_same _ _ _ _ (by omega)]
 rfl
theorem dcZ {xs:List UInt8} {vs:List (List UInt8)} {m w:Int} {k a:Nat} {t:List UInt8×List Int×Int} (h:dcC xs vs m w k=t):t.1.getD a 0=(dcP xs vs m w k).getD a 0:=by rw [dcP_get,h]
theorem dcZ0 {xs:List UInt8} {vs:List (List UInt8)} {m w:Int} {k a:Nat} {t:List UInt8×List Int×Int} (h:dcC xs vs m w k=t) (hl:¬(a:Int)<(t.1.length:Int)):(0:UInt8)=(dcP xs vs m w k).getD a 0:=by
 rw [dcP_get,h,List.getD_eq_getElem?_getD,List.getElem?_eq_none (by omega)];rfl
open Go Go.Proofs.YtlmegkgkipjgbaaDoor.Vc Go.Proofs
set_option linter.unusedVariables false
open Go.Proofs.YtlmegkgkipjgbaaDoor.S33
def rB (hs:List Int) (nd wr sz st ph me:Int) (sh:List UInt8) (rows:List (List (List UInt8))) (vals:List (List (List (List UInt8)))) (vd set:Int) (X:List UInt8) (U:List (List UInt8)) (m:Nat) (R:Nat→List UInt8):List Blk:=
 [cTk hs nd wr sz st ph,cSt me sh rows vals,.cells [.i vd,.i set],.r .u8 X,.r .str U,.cells ((List.range m).map fun a=> .own .u8 (6+a))]++(List.range m).map fun a=> .r .u8 (R a)
def rA (hs:List Int) (nd wr sz st ph me:Int) (sh:List UInt8) (rows:List (List (List UInt8))) (vals:List (List (List (List UInt8)))) (vd set:Int) (X:List UInt8) (U:List (List UInt8)) (w:Int) (m b:Nat) (Y:List UInt8) (D:List UInt8×List Int×Int) (a:Nat):List Blk:=
 rB hs nd wr sz st ph me sh rows vals vd set X U m (fun i=>bif Nat.blt i a then dcR X U m w i b++ [(dcP X U m w b).getD i 0] else dcR X U m w i b)++ [.r .u8 Y,.r .u8 D.1,.r (.int .i64) D.2.1,.cells [.own .u8 (7+m),.own (.int .i64) (8+m),.i D.2.2]]++(List.range a).map fun i=> .r .u8 [(dcP X U m w b).getD i 0]
theorem rB_snoc (hs:List Int) (nd wr sz st ph me:Int) (sh:List UInt8) (rows:List (List (List UInt8))) (vals:List (List (List (List UInt8)))) (vd set:Int) (X:List UInt8) (U:List (List UInt8)) (w:Int) (m b:Nat):(rB hs nd wr sz st ph me sh rows vals vd set X U m fun a=>dcR X U m w a (b+1))=rB hs nd wr sz st ph me sh rows vals vd set X U m fun a=>dcR X U m w a b++ [(dcP X U m w b).getD a 0]:=congrArg (rB hs nd wr sz st ph me sh rows vals vd set X U m) (funext fun a=>dcR_snoc ..)
theorem bRom {m:Nat} [Sz m] (hm:1≤m∧m≤6) (hs:List Int) (nd wr sz st ph me:Int) (sh:List UInt8) (rows:List (List (List UInt8))) (vals:List (List (List (List UInt8)))) (vd set:Int) (hnd:nd=m+1) (hp0:hs.length≤12) (hp1:(∀x∈hs,0≤x∧x<12)) (hp2:vals.length=hs.length) (hp3:(∀x∈vals,x.length=hs.length)) (hp4:0≤wr) (hp5:wr≤12) (hp6:1≤sz) (hp7:sz≤4096) (hp8:vd∈hs) (hp9:0≤set) (hp10:set<4096) (hp11:(∀v∈vals,∀x∈v,0<x.length→((x.getD 0 []).length:Int)=sz)) (hp12:rows.length=hs.length) (hp13:0≤me) (hp14:me<12):bodyI (En CRRc tys G6 QOth [1000000,1000001,5000151]) Tryd.f50 [.f .str] [aTk hs nd wr sz st ph,aSt me sh rows vals,.agg [.int .i64 vd,.int .i64 set]] (.sl false .str (rwL hs nd wr sz me rows vals vd set)) []:=by
 obtain⟨po0,po1,po2⟩:=pos_of hp8
 have hkv:=hp3 _ (gmem [] vals (idxF vd hs 0).toNat (by omega))
 subst hnd
 obtain rfl|rfl|rfl|rfl|rfl|rfl:m=1∨m=2∨m=3∨m=4∨m=5∨m=6:=by omega
 all_goals
  have hS:=mSq
  refine⟨rfl,rfl,rfl,rfl,rfl,rfl,om (hs.length≤2000000),rfl,rfl,⟨om (0≤set),om (0≤me),om (me<12)⟩,yn (set/2^me.toNat%2=1) (fun h0=> ?_) fun h0=> ?_⟩
  ·refine⟨ix (idxF vd hs 0) rows.length,?_⟩
   rw [show rwL hs (mS+1) wr sz me rows vals vd set=rows.getD (idxF vd hs 0).toNat [] from if_pos h0]
   exact d4'
  refine .inl ?_
  refine⟨3, [(3,.k),(4,.k),(5,.k),(7,.k),(9,.o .u8),(10,.o .str),(11,.k)],fun nM vs H=>∃(k:Nat) (X:List UInt8) (U:List (List UInt8)),(k≤hs.length∧X=dcX set (vals.getD (idxF vd hs 0).toNat []) ((prs 0 hs).take k)∧U=dcV set (vals.getD (idxF vd hs 0).toNat []) ((prs 0 hs).take k))∧nM=hs.length-k∧vs= [.p 0,.p 1,.p 2,.i (idxF vd hs 0),.own .u8 3,.own .str 4,.i k]∧H= [cTk hs (mS+1) wr sz st ph,cSt me sh rows vals,.cells [.i vd,.i set],.r .u8 X,.r .str U],⟨rfl,hs.length,0, [], [],⟨by omega,rfl,rfl⟩,by omega,rfl,rfl⟩,?_⟩
  rintro nM vs H ⟨k,X,U,⟨hc1_0,hc1_1,hc1_2⟩,rfl,rfl,rfl⟩
  have hxl:=dcX_len set (vals.getD (idxF vd hs 0).toNat []) ((prs 0 hs).take k)
  rw [←hc1_1,List.length_take] at hxl
  have hul:=dcV_len set (vals.getD (idxF vd hs 0).toNat []) ((prs 0 hs).take k)
  rw [←hc1_1,←hc1_2] at hul
  refine yn ((k:Int)<(hs.length:Int)) (fun h1=> ?_) fun h1=> ?_
  ·have hkl:k<hs.length:=by omega
   obtain⟨g0,g1⟩:=hp1 _ (gmem 0 hs k hkl)
   obtain⟨q0,q1⟩:=pw12 g0 g1
   refine⟨by kernel_rfl,ix k hs.length,rfl,rfl,⟨om (0≤set),om (0≤hs.getD k 0),om (hs.getD k 0<12)⟩,yn (set/2^(hs.getD k 0).toNat%2=1) (fun h2=> ?_) fun h2=> ?_⟩
   ·refine⟨ix (idxF vd hs 0) vals.length,ix k (vals.getD (idxF vd hs 0).toNat []).length,yn (0<(((vals.getD (idxF vd hs 0).toNat []).getD k []).length:Int)) (fun h3=> ?_) fun h3=> ?_⟩
    ·have hxu:=prs_yes hkl h2 (by omega) hc1_1 hc1_2
     refine⟨ix k hs.length,r64 (hs.getD k 0+1),w2',l9 X.length,ix (idxF vd hs 0) vals.length,ix k (vals.getD (idxF vd hs 0).toNat []).length,ix 0 ((vals.getD (idxF vd hs 0).toNat []).getD k []).length,w2',l9 U.length,r64 (k+1),?_⟩
     exact⟨rfl,hs.length-(k+1),by omega,k+1,_,_,⟨by omega,hxu.1,hxu.2⟩,rfl,rfl,rfl⟩
    have hxu:=prs_no hkl (fun g=>h3 (by have:=g.2;omega)) hc1_1 hc1_2
    refine⟨r64 (k+1),?_⟩
    exact⟨rfl,hs.length-(k+1),by omega,k+1,_,_,⟨by omega,hxu.1,hxu.2⟩,rfl,rfl,rfl⟩
   have hxu:=prs_no hkl (fun g=>h2 g.1) hc1_1 hc1_2
   refine⟨r64 (k+1),?_⟩
   exact⟨rfl,hs.length-(k+1),by omega,k+1,_,_,⟨by omega,hxu.1,hxu.2⟩,rfl,rfl,rfl⟩
  have hX:=dcX_prs h0 (by omega) hc1_1
  have hU:=dcV_prs h0 (by omega) hc1_2
  have hVs:∀v∈U,(v.length:Int)=sz:=fun v hv=>dcV_sz (hp11 _ (gmem [] vals (idxF vd hs 0).toNat (by omega))) v (hc1_2▸hv)
  have hrw:rwL hs (mS+1) wr sz me rows vals vd set=dcL wr sz mS X U:=by unfold rwL;rw [if_neg h0,hX,hU,show(mS:Int)+1-1=mS by omega]
  refine⟨q64,r64 (mS+wr),yn ((X.length:Int)<mS+wr) (fun h4=> ?_) fun h4=> ?_⟩
  ·rw [hrw,dcL_no (fun g=>by have:=g.1;omega)]
   exact d4'
  refine⟨r64 (X.length-mS),r64 (X.length-mS-wr),⟨rfl,qd,qd⟩,.inl ?_⟩
  refine⟨6+mS, [(3,.k),(9,.k),(10,.k),(13,.k),(14,.k),(15,.c ((List.range mS).map fun a=>(a,.u8))),(16,.k)],fun nM vs H=>∃(b:Nat) (w:Int),((b:Int)≤sz∧w=dcW wr mS X∧∀j:Nat,j<b→(dcC X U mS w j).2.2=0)∧nM=sz.toNat-b∧vs= [.p 0,.own .u8 3,.own .str 4,.i mS,.i w,.own (.sl .u8) 5,.i b]∧H=rB hs (mS+1) wr sz st ph me sh rows vals vd set X U mS fun a=>dcR X U mS w a b,⟨rfl,sz.toNat,0,_,⟨by omega,rfl,fun j hj=>absurd hj (by omega)⟩,rfl,rfl,rfl⟩,?_⟩
  rintro nM vs H ⟨b,w,⟨hc2_0,hw,hc2_1⟩,rfl,rfl,rfl⟩
  refine yn ((b:Int)<sz) (fun h5=> ?_) fun h5=> ?_
  ·refine .inl ?_
   refine⟨6+mS, [(3,.k),(9,.k),(10,.k),(13,.k),(14,.k),(15,.k),(16,.k),(17,.o .u8),(18,.k)],fun nM vs H=>∃(i:Nat) (Y:List UInt8),(i≤U.length∧Y=(U.take i).map (fun v=>v.getD b 0))∧nM=U.length-i∧vs= [.p 0,.own .u8 3,.own .str 4,.i mS,.i w,.own (.sl .u8) 5,.i b,.own .u8 (6+mS),.i i]∧H=(rB hs (mS+1) wr sz st ph me sh rows vals vd set X U mS fun a=>dcR X U mS w a b)++ [.r .u8 Y],⟨rfl,U.length,0, [],⟨by omega,rfl⟩,by omega,rfl,rfl⟩,?_⟩
   rintro nM vs H ⟨i,Y,⟨hc3_0,hY⟩,rfl,rfl,rfl⟩
   have hyl:Y.length=i:=by rw [hY,List.length_map,List.length_take];omega
   refine yn ((i:Int)<(U.length:Int)) (fun h6=> ?_) fun h6=> ?_
   ·have hil:i<U.length:=by omega
    have hvi:=hVs _ (gmem [] U i hil)
    refine⟨ix i U.length,ix b (U.getD i []).length,w2',l9 Y.length,r64 (i+1),?_⟩
    exact⟨rfl,U.length-(i+1),by omega,i+1,_,⟨by omega,by rw [map_take_snoc [] _ U i hil,hY];rfl⟩,rfl,rfl,rfl⟩
   have hC:dcC X U mS w b=rdecL X Y (mS-1) w:=dcC_ref (by omega) (by rw [hY,List.take_of_length_le (by omega)];rfl) rfl
   refine⟨q64,rfl,rfl,⟨om (X.length≤12),om (Y.length≤12)⟩,w4',yn ((rdecL X Y (mS-1) w).2.2≠0) (fun h7=> ?_) fun h7=> ?_⟩
   ·rw [hrw,dcL_no (fun g=>by have:=g.2 b (by omega);rw [←hw,hC] at this;exact h7 this)]
    exact d4'
   have hall:∀j:Nat,j<b+1→(dcC X U mS w j).2.2=0:=fun j hj=>by
    rcases Nat.lt_or_ge j b with g|g
    ·exact hc2_1 j g
    ·obtain rfl:j=b:=by omega
     rw [hC];exact nw h7
   refine .inr ?_
   refine ya ?_
   have:Rd 0:=⟨trivial⟩
   repeat
    refine⟨10+mS+aS, [(3,.k),(9,.k),(10,.k),(13,.k),(14,.k),(15,.k),(16,.k),(19,.k),(20,.k),(21,.k)],fun vs H=>∃z:UInt8,z=(dcP X U mS w b).getD aS 0∧vs= [.p 0,.own .u8 3,.own .str 4,.i mS,.i w,.own (.sl .u8) 5,.i b,.p (9+mS),.i aS,.u8 z]∧H=rA hs (mS+1) wr sz st ph me sh rows vals vd set X U w mS b Y (rdecL X Y (mS-1) w) aS,fun(hj:(aS:Int)<((rdecL X Y (mS-1) w).1.length:Int))=> ?_,fun(hj:¬(aS:Int)<((rdecL X Y (mS-1) w).1.length:Int))=> ?_,?_⟩
    ·refine⟨ix aS (rdecL X Y (mS-1) w).1.length,?_⟩
     exact⟨rfl,_,dcZ hC,rfl,rfl⟩
    ·exact⟨rfl,_,dcZ0 hC hj,rfl,rfl⟩
    rintro vs H ⟨z,rfl,rfl,rfl⟩
    first|refine⟨qi,w2',l9r,qi,w3',q64,ye ?_⟩|refine⟨qi,w2',l9r,qi,w3',q64,na ?_⟩
    have:Rd (aS+1):=⟨trivial⟩
   refine⟨r64 (b+1),?_⟩
   exact⟨rfl,sz.toNat-(b+1),by omega,b+1,w,⟨by omega,hw,hall⟩,rfl,rfl,by rw [rB_snoc];rfl⟩
  refine .inr ?_
  refine ya ?_
  first|refine⟨qi,lq,q64,ye ?_⟩|refine⟨qi,lq,q64,na ?_⟩
  repeat refine⟨qi,w2',lq,q64,ye ?_⟩
  try refine⟨qi,w2',lq,q64,nf ?_⟩
  have hO:dcO wr sz mS X U:=⟨by omega,fun j hj=>by rw [←hw];exact hc2_1 j (by omega)⟩
  rw [hrw,dcL_yes hO,←hw,show sz.toNat=b by omega]
  exact d4'
noncomputable def sRow:List V→Option (Prop×V×List Blk)
 |[.agg [.sl false (.int .i64) hs,.int .i64 nd,.int .i64 wr,.int .i64 sz,.int .i64 st,.int .i64 ph],.agg [.int .i64 me,.str sh,.sl false (.sl .str) rows,.sl false (.sl (.sl .str)) vals],.agg [.int .i64 vd,.int .i64 set]]=>some (hs.length≤12∧(∀x∈hs,0≤x∧x<12)∧vals.length=hs.length∧(∀x∈vals,x.length=hs.length)∧0≤wr∧wr≤12∧1≤sz∧sz≤4096∧vd∈hs∧0≤set∧set<4096∧(∀v∈vals,∀x∈v,0<x.length→((x.getD 0 []).length:Int)=sz)∧rows.length=hs.length∧0≤me∧me<12∧2≤nd∧nd≤7,.sl false .str (rwL hs nd wr sz me rows vals vd set), [])
 |_=>none
theorem bRow (hs:List Int) (nd wr sz st ph me:Int) (sh:List UInt8) (rows:List (List (List UInt8))) (vals:List (List (List (List UInt8)))) (vd:Int) (set:Int) (hp0:hs.length≤12) (hp1:(∀x∈hs,0≤x∧x<12)) (hp2:vals.length=hs.length) (hp3:(∀x∈vals,x.length=hs.length)) (hp4:0≤wr) (hp5:wr≤12) (hp6:1≤sz) (hp7:sz≤4096) (hp8:vd∈hs) (hp9:0≤set) (hp10:set<4096) (hp11:(∀v∈vals,∀x∈v,0<x.length→((x.getD 0 []).length:Int)=sz)) (hp12:rows.length=hs.length) (hp13:0≤me) (hp14:me<12) (hp15:2≤nd) (hp16:nd≤7):bodyI (En CRRc tys G6 QOth [1000000,1000001,5000151]) Tryd.f50 [.f .str] [aTk hs nd wr sz st ph,aSt me sh rows vals,.agg [.int .i64 vd,.int .i64 set]] (.sl false .str (rwL hs nd wr sz me rows vals vd set)) []:=by
 obtain⟨m,hm⟩:∃m:Nat,nd-1=m:=⟨(nd-1).toNat,by omega⟩
 exact @bRom m ⟨trivial⟩ (by omega) hs nd wr sz st ph me sh rows vals vd set (by omega) hp0 hp1 hp2 hp3 hp4 hp5 hp6 hp7 hp8 hp9 hp10 hp11 hp12 hp13 hp14
noncomputable def CRow:List (Nat×Con):=(50,immC [.v tTk,.v tSt,.v (.cons (.int .i64) (.cons (.int .i64) .nil))] sRow)::CRRc
theorem kRow:Known Tryd.prog (En CRow tys G6 QOth):=Known.frz0<|(kRRc.frz [1000000,1000001,5000151]).addI Tryd.func50 Tryd.call50 [.f .str] fun ds p v bs h hp=>by
 unfold sRow at h
 split at h<;>simp only [Option.some.injEq,Prod.mk.injEq,reduceCtorEq] at h
 obtain⟨rfl,rfl,rfl⟩:=h
 exact bRow _ _ _ _ _ _ _ _ _ _ _ _ hp.1 hp.2.1 hp.2.2.1 hp.2.2.2.1 hp.2.2.2.2.1 hp.2.2.2.2.2.1 hp.2.2.2.2.2.2.1 hp.2.2.2.2.2.2.2.1 hp.2.2.2.2.2.2.2.2.1 hp.2.2.2.2.2.2.2.2.2.1 hp.2.2.2.2.2.2.2.2.2.2.1 hp.2.2.2.2.2.2.2.2.2.2.2.1 hp.2.2.2.2.2.2.2.2.2.2.2.2.1 hp.2.2.2.2.2.2.2.2.2.2.2.2.2.1 hp.2.2.2.2.2.2.2.2.2.2.2.2.2.2.1 hp.2.2.2.2.2.2.2.2.2.2.2.2.2.2.2.1 hp.2.2.2.2.2.2.2.2.2.2.2.2.2.2.2.2
theorem cl_bd (es:Ps) (k:Int):∀(l:List Int) (set more:Int),0≤set→set<4096→(∀h∈l,0≤h∧h<12)→cl es k l set more<4096
 |[],set,more,h0,h1,_=>by
  rw [cl]
  split<;>omega
 | a::l,set,more,h0,h1,hl=>by
  have ha:=hl a (by simp)
  have hn:=nxt_lt h0 h1 ha.1 ha.2
  have i1:=cl_bd es k l (nxt set a) (more-1) hn.1 hn.2 fun h hh=>hl h (by simp [hh])
  have i2:=cl_bd es k l set more h0 h1 fun h hh=>hl h (by simp [hh])
  rw [cl]
  split
  ·exact h1
  ·split
   ·split
    ·exact i1
    ·exact i2
   ·exact i2
theorem vdL_bd {hs:List Int} {wr:Int} {es:Ps} {v:Int×Int×Unit} (hb:∀h∈hs,0≤h∧h<12):∀k,v∈vdL hs wr es k→0≤v.2.1∧v.2.1<4096
 |0,h=>by simp [vdL] at h
 | k+1,h=>by
  rw [vdL] at h
  rcases List.mem_append.1 h with h|h
  ·exact vdL_bd hb k h
  ·unfold vd1 at h
   split at h
   ·rename_i h0
    simp only [List.mem_singleton] at h
    subst h
    exact⟨h0,cl_bd es k _ 0 _ (by omega) (by omega) fun h hh=>hb h (List.mem_of_mem_drop hh)⟩
   ·cases h
theorem dec_bd {hs:List Int} {nd wr sz st ph:Int} {l:List RP} {v:Int×Int×Unit} (h:v∈decL hs nd wr sz st ph l):0≤v.2.1∧v.2.1<4096:=by
 unfold decL at h
 split at h
 ·rename_i h0
  exact vdL_bd (tk0 h0).hs12 _ h
 ·cases h
noncomputable def fnR (hs:List Int) (nd wr sz me:Int) (rows:List (List (List UInt8))) (vals:List (List (List (List UInt8)))) (v:Int×Int×Unit):List (List UInt8):=rwL hs nd wr sz me rows vals v.1 v.2.1
noncomputable def fnL (hs:List Int) (nd wr sz st ph me:Int) (rows:List (List (List UInt8))) (vals:List (List (List (List UInt8)))) (l:List RP):List (List (List UInt8)):=(decL hs nd wr sz st ph l).map (fnR hs nd wr sz me rows vals)
def allN (l:List (List (List UInt8))):Prop:=l.all (fun r=>decide (0<r.length))=true
instance (l:List (List (List UInt8))):Decidable (allN l):=by unfold allN;infer_instance
theorem allN_no {l:List (List (List UInt8))} {r:List (List UInt8)} (h:r∈l) (hr:r.length=0):¬allN l:=fun g=>by have:=of_decide_eq_true (List.all_eq_true.1 g _ h);omega
theorem allN_snoc {l:List (List (List UInt8))} {r:List (List UInt8)} (h:allN l) (hr:0<r.length):allN (l++ [r]):=by
 unfold allN at*
 rw [List.all_append,h,Bool.true_and,List.all_cons,List.all_nil,Bool.and_true];exact decide_eq_true hr
noncomputable def fnE (hs:List Int) (nd wr sz st ph me:Int) (sh:List UInt8) (rows:List (List (List UInt8))) (vals:List (List (List (List UInt8)))) (l:List RP):Int:=
 if tkE hs nd wr sz st ph=0 then(if allN (fnL hs nd wr sz st ph me rows vals l) then updE me sh (fnL hs nd wr sz st ph me rows vals l) else 17) else tkE hs nd wr sz st ph
noncomputable def fnH (hs:List Int) (nd wr sz st ph me:Int) (sh:List UInt8) (rows:List (List (List UInt8))) (vals:List (List (List (List UInt8)))) (l:List RP):Int:=
 if fnE hs nd wr sz st ph me sh rows vals l=0 then me else 0
noncomputable def fnS (hs:List Int) (nd wr sz st ph me:Int) (sh:List UInt8) (rows:List (List (List UInt8))) (vals:List (List (List (List UInt8)))) (l:List RP):List UInt8:=
 if fnE hs nd wr sz st ph me sh rows vals l=0 then updB me sh (fnL hs nd wr sz st ph me rows vals l) else []
theorem fn_err {hs:List Int} {nd wr sz st ph me:Int} {sh:List UInt8} {rows:List (List (List UInt8))} {vals:List (List (List (List UInt8)))} {l:List RP} (h:fnE hs nd wr sz st ph me sh rows vals l≠0):fnH hs nd wr sz st ph me sh rows vals l=0∧fnS hs nd wr sz st ph me sh rows vals l= []:=⟨if_neg h,if_neg h⟩
theorem fn_upd {hs:List Int} {nd wr sz st ph me:Int} {sh:List UInt8} {rows:List (List (List UInt8))} {vals:List (List (List (List UInt8)))} {l:List RP} (h:fnE hs nd wr sz st ph me sh rows vals l=updE me sh (fnL hs nd wr sz st ph me rows vals l)):
  fnH hs nd wr sz st ph me sh rows vals l=updH me sh (fnL hs nd wr sz st ph me rows vals l)∧fnS hs nd wr sz st ph me sh rows vals l=updS me sh (fnL hs nd wr sz st ph me rows vals l):=by
 unfold fnH fnS updH updS
 rw [h]
 exact⟨rfl,rfl⟩
noncomputable def rfE (hs:List Int) (nd wr sz st ph me:Int) (rows:List (List (List UInt8))) (vals:List (List (List (List UInt8)))) (l:List RP):Int:=
 if tkE hs nd wr sz st ph=0 then(if allN (fnL hs nd wr sz st ph me rows vals l) then 0 else 17) else tkE hs nd wr sz st ph
noncomputable def rfH (hs:List Int) (nd wr sz st ph me:Int) (sh:List UInt8) (rows:List (List (List UInt8))) (vals:List (List (List (List UInt8)))) (l:List RP):Int:=
 if rfE hs nd wr sz st ph me rows vals l=0 then updH me sh (fnL hs nd wr sz st ph me rows vals l) else 0
noncomputable def rfS (hs:List Int) (nd wr sz st ph me:Int) (sh:List UInt8) (rows:List (List (List UInt8))) (vals:List (List (List (List UInt8)))) (l:List RP):List UInt8:=
 if rfE hs nd wr sz st ph me rows vals l=0 then updS me sh (fnL hs nd wr sz st ph me rows vals l) else []
theorem rf_err {hs:List Int} {nd wr sz st ph me:Int} {sh:List UInt8} {rows:List (List (List UInt8))} {vals:List (List (List (List UInt8)))} {l:List RP} (h:rfE hs nd wr sz st ph me rows vals l≠0):rfH hs nd wr sz st ph me sh rows vals l=0∧rfS hs nd wr sz st ph me sh rows vals l= []:=⟨if_neg h,if_neg h⟩
theorem rf_upd {hs:List Int} {nd wr sz st ph me:Int} {sh:List UInt8} {rows:List (List (List UInt8))} {vals:List (List (List (List UInt8)))} {l:List RP} (h:rfE hs nd wr sz st ph me rows vals l=0):
  rfH hs nd wr sz st ph me sh rows vals l=updH me sh (fnL hs nd wr sz st ph me rows vals l)∧rfS hs nd wr sz st ph me sh rows vals l=updS me sh (fnL hs nd wr sz st ph me rows vals l):=⟨if_pos h,if_pos h⟩
def okR (nd sz:Int) (r:List (List UInt8)):Prop:=r.length=0∨((r.length:Int)=nd-1∧∀s∈r,(s.length:Int)=sz)
theorem okR_get {nd sz:Int} {rows:List (List (List UInt8))} (h:∀r∈rows,okR nd sz r) (k:Nat):okR nd sz (rows.getD k []):=by
 by_cases g:k<rows.length
 ·exact h _ (gmem [] rows k g)
 ·rw [List.getD_eq_getElem?_getD,List.getElem?_eq_none (by omega)];exact .inl rfl
theorem rw_right {hs:List Int} {nd wr sz me vd set:Int} {rows:List (List (List UInt8))} {vals:List (List (List (List UInt8)))} (h1:2≤nd) (h2:0≤sz) (h:∀r∈rows,okR nd sz r):okR nd sz (rwL hs nd wr sz me rows vals vd set):=by
 unfold rwL
 split
 ·exact okR_get h _
 ·unfold dcL
  split
  ·refine .inr ⟨by rw [List.length_map,List.length_range];omega,fun s hs=> ?_⟩
   obtain⟨a,_,rfl⟩:=List.mem_map.1 hs
   rw [dcR_len];omega
  ·exact .inl rfl
theorem okR_le {nd sz:Int} {r:List (List UInt8)} (h:okR nd sz r) (hn:nd≤1000):r.length≤1048576:=by
 rcases h with h|h<;>omega
theorem upd_ok {nd sz me:Int} {sh:List UInt8} {l:List (List (List UInt8))} (h1:2≤nd∧nd≤12) (h2:0≤sz∧sz≤4096) (hm:0≤me∧me<12) (hs:(sh.length:Int)=sz) (hl:∀r∈l,okR nd sz r) (hn:allN l):updE me sh l=0:=by
 unfold updE
 rw [if_pos (show knw me from hm),if_pos (by omega),if_pos]
 refine List.all_eq_true.2 fun r hr=> ?_
 have h0:0<r.length:=of_decide_eq_true (List.all_eq_true.1 hn r hr)
 rcases hl r hr with g|⟨g1,g2⟩
 ·omega
 have hz:n0 r=sh.length:=by
  have:=g2 _ (gmem [] r 0 h0)
  unfold n0
  omega
 refine updOk_yes ?_ hz
 rw [right_all (by omega) (by omega)]
 refine List.all_eq_true.2 fun s hs=> ?_
 have:=g2 s hs
 rw [decide_eq_true (by omega:s.length=n0 r),decide_eq_true (by omega:s.length≤4096)];rfl
noncomputable def sFin:List V→Option (Prop×V×List Blk)
 |[.agg [.sl false (.int .i64) hs,.int .i64 nd,.int .i64 wr,.int .i64 sz,.int .i64 st,.int .i64 ph],.agg [.int .i64 me,.str sh,.sl false (.sl .str) rows,.sl false (.sl (.sl .str)) vals],.sl false (.cons (.int .i64) (.cons (.sl (.int .i64)) .nil)) l]=>some (hs.length≤2000000∧l.length≤20∧(∀p∈l,p.2.1.length≤1048576)∧rows.length=hs.length∧vals.length=hs.length∧(∀x∈vals,x.length=hs.length)∧(∀v∈vals,∀x∈v,0<x.length→((x.getD 0 []).length:Int)=sz)∧(∀r∈rows,okR nd sz r)∧0≤me∧me<12∧nd≤7,.tup [.agg [.int .i64 (fnH hs nd wr sz st ph me sh rows vals l),.str (fnS hs nd wr sz st ph me sh rows vals l)],.int .i64 (fnE hs nd wr sz st ph me sh rows vals l)], [])
 |_=>none
theorem bFin (hs:List Int) (nd wr sz st ph me:Int) (sh:List UInt8) (rows:List (List (List UInt8))) (vals:List (List (List (List UInt8)))) (l:List (Int×(List Int×Unit))):bodyQ (En CRow tys G6 QOth [1000002]) Tryd.f20 [.k,.k] sFin [aTk hs nd wr sz st ph,aSt me sh rows vals,.sl false tPo l]:=by
 rintro⟨hp0,hp1,(hp2:(∀p∈l,p.2.1.length≤1048576)),hp3,hp4,(hp5:(∀x∈vals,x.length=hs.length)),(hp6:(∀v∈vals,∀x∈v,0<x.length→((x.getD 0 []).length:Int)=sz)),(hp7:(∀r∈rows,okR nd sz r)),hp8,hp9,hp10⟩
 refine⟨rfl,rfl,rfl,rfl,rfl,⟨om (hs.length≤2000000),om (l.length≤20),by assumption⟩,yn ((tkE hs nd wr sz st ph)≠0) (fun h0=> ?_) fun h0=> ?_⟩
 ·refine⟨w4',?_⟩
  have e:fnE hs nd wr sz st ph me sh rows vals l=tkE hs nd wr sz st ph:=by unfold fnE;rw [if_neg h0]
  obtain⟨e1,e2⟩:=fn_err (sh:=sh) (show fnE hs nd wr sz st ph me sh rows vals l≠0 by rw [e];exact h0)
  rw [e1,e2,e]
  exact d4'
 ·have hT:=tk0 (nw h0)
  have hl12:=hT.l12
  have hsb:∀h∈hs,0≤h∧h<12:=hT.hs12
  obtain⟨⟨n1,n2⟩,⟨w1,w2⟩,⟨z1,z2⟩,_⟩:=hT.rg.1
  have hdl:=dec_len hs nd wr sz st ph l
  have hor:∀v,okR nd sz ((fnR hs nd wr sz me rows vals) v):=fun v=>rw_right n1 (by omega) hp7
  have hml:∀k,(((decL hs nd wr sz st ph l).take k).map (fnR hs nd wr sz me rows vals)).length≤hs.length:=fun k=>by rw [List.length_map,List.length_take];omega
  refine⟨4, [(3,.k),(4,.k),(6,.k),(10,.w (.sl .str)),(27,.o (.cons (.int .i64) (.cons (.int .i64) .nil))),(28,.k),(29,.k)],fun nM vs H=>∃(k:Nat),k≤(decL hs nd wr sz st ph l).length∧allN (((decL hs nd wr sz st ph l).take k).map (fnR hs nd wr sz me rows vals))∧nM=(decL hs nd wr sz st ph l).length-k∧vs= [.p 0,.p 1,.p 2,.own (.sl .str) 4,.own (.cons (.int .i64) (.cons (.int .i64) .nil)) 3,.i (((decL hs nd wr sz st ph l).length:Nat):Int),.i k]∧H= [cTk hs nd wr sz st ph,cSt me sh rows vals,.cells [.i 0,.str ([])],.r (.cons (.int .i64) (.cons (.int .i64) .nil)) (decL hs nd wr sz st ph l),.row false (.sl .str) (((decL hs nd wr sz st ph l).take k).map (fnR hs nd wr sz me rows vals))],⟨rfl,(decL hs nd wr sz st ph l).length,0,by omega,rfl,by omega,rfl,rfl⟩,?_⟩
  rintro nM vs H ⟨k,hc1_0,hc1_1,rfl,rfl,rfl⟩
  refine yn ((k:Int)<(((decL hs nd wr sz st ph l).length:Nat):Int)) (fun h1=> ?_) fun h1=> ?_
  ·have hkl:k<(decL hs nd wr sz st ph l).length:=by omega
   have hvm:=gmem (0,0,()) (decL hs nd wr sz st ph l) k hkl
   obtain⟨b0,b1⟩:=dec_bd hvm
   obtain⟨po0,po1,po2⟩:=pos_of (dec_mem hvm)
   have hst:=map_take_snoc (0,0,()) (fnR hs nd wr sz me rows vals) (decL hs nd wr sz st ph l) k hkl
   have hmk:=hml k
   have hrl:=okR_le (hor ((decL hs nd wr sz st ph l).getD k (0,0,()))) (by omega)
   refine⟨ix k (decL hs nd wr sz st ph l).length,w4',rfl,om (hs.length≤2000000),ix (idxF (((decL hs nd wr sz st ph l).getD k (0,0,())).1) hs 0) rows.length,⟨om ((0:Int)≤me),om (me≤(64:Int))⟩,.inr ⟨rfl,?_⟩⟩
   refine yn (((((((decL hs nd wr sz st ph l).getD k (0,0,())).2).1)/2^me.toNat)%2)=0) (fun h2=> ?_) fun h2=> ?_
   ·have hfr:(fnR hs nd wr sz me rows vals) ((decL hs nd wr sz st ph l).getD k (0,0,()))=dcL wr sz (nd-1) (dcX ((decL hs nd wr sz st ph l).getD k (0,0,())).2.1 (vals.getD (idxF ((decL hs nd wr sz st ph l).getD k (0,0,())).1 hs 0).toNat []) (oth me 0 hs)) (dcV ((decL hs nd wr sz st ph l).getD k (0,0,())).2.1 (vals.getD (idxF ((decL hs nd wr sz st ph l).getD k (0,0,())).1 hs 0).toNat []) (oth me 0 hs)):=if_neg (by omega)
    have hrl2:=hrl
    rw [hfr] at hrl2
    refine⟨rfl,rfl,rfl,rfl,rfl,rfl,rfl,rfl,⟨om (hs.length≤12),hsb,om (vals.length=hs.length),hp5,om (0≤wr),om (wr≤12),om (1≤sz),om (sz≤4096),om (0≤(idxF (((decL hs nd wr sz st ph l).getD k (0,0,())).1) hs 0)),om ((idxF (((decL hs nd wr sz st ph l).getD k (0,0,())).1) hs 0)<(hs.length:Int)),om (0≤((((decL hs nd wr sz st ph l).getD k (0,0,())).2).1)),om (((((decL hs nd wr sz st ph l).getD k (0,0,())).2).1)<4096),hp6,om (2≤nd),om (nd≤7)⟩,ny (¬(dcO wr sz (nd-1) (dcX ((((decL hs nd wr sz st ph l).getD k (0,0,())).2).1) (vals.getD ((idxF (((decL hs nd wr sz st ph l).getD k (0,0,())).1) hs 0)).toNat []) (oth me 0 hs)) (dcV ((((decL hs nd wr sz st ph l).getD k (0,0,())).2).1) (vals.getD ((idxF (((decL hs nd wr sz st ph l).getD k (0,0,())).1) hs 0)).toNat []) (oth me 0 hs)))) (fun h3=> ?_) fun h3=> ?_⟩
    ·refine yn ((((dcL wr sz (nd-1) (dcX ((((decL hs nd wr sz st ph l).getD k (0,0,())).2).1) (vals.getD ((idxF (((decL hs nd wr sz st ph l).getD k (0,0,())).1) hs 0)).toNat []) (oth me 0 hs)) (dcV ((((decL hs nd wr sz st ph l).getD k (0,0,())).2).1) (vals.getD ((idxF (((decL hs nd wr sz st ph l).getD k (0,0,())).1) hs 0)).toNat []) (oth me 0 hs))).length:Nat):Int)=0) (fun h4=> ?_) fun h4=> ?_
     ·refine⟨w4',?_⟩
      have hr0:((fnR hs nd wr sz me rows vals) ((decL hs nd wr sz st ph l).getD k (0,0,()))).length=0:=by rw [hfr];omega
      have e:fnE hs nd wr sz st ph me sh rows vals l=17:=by unfold fnE;rw [if_pos (nw h0),if_neg (allN_no (show(fnR hs nd wr sz me rows vals) ((decL hs nd wr sz st ph l).getD k (0,0,()))∈(fnL hs nd wr sz st ph me rows vals l) from List.mem_map.2 ⟨_,hvm,rfl⟩) hr0)]
      obtain⟨e1,e2⟩:=fn_err (sh:=sh) (show fnE hs nd wr sz st ph me sh rows vals l≠0 by rw [e];decide)
      rw [e1,e2,e]
      exact d4'
     ·have hrp:0<((fnR hs nd wr sz me rows vals) ((decL hs nd wr sz st ph l).getD k (0,0,()))).length:=by rw [hfr];omega
      have hnx:allN (((decL hs nd wr sz st ph l).take (k+1)).map (fnR hs nd wr sz me rows vals)):=by rw [hst];exact allN_snoc hc1_1 hrp
      refine⟨w2',l9 (((decL hs nd wr sz st ph l).take k).map (fnR hs nd wr sz me rows vals)).length,r64 (k+1),?_⟩
      exact⟨rfl,(decL hs nd wr sz st ph l).length-(k+1),by omega,k+1,by omega,hnx,rfl,rfl,by rw [hst,hfr];rfl⟩
    ·refine⟨w4',?_⟩
     have hr0:((fnR hs nd wr sz me rows vals) ((decL hs nd wr sz st ph l).getD k (0,0,()))).length=0:=by rw [hfr];rw [dcL,if_neg h3];rfl
     have e:fnE hs nd wr sz st ph me sh rows vals l=17:=by unfold fnE;rw [if_pos (nw h0),if_neg (allN_no (show(fnR hs nd wr sz me rows vals) ((decL hs nd wr sz st ph l).getD k (0,0,()))∈(fnL hs nd wr sz st ph me rows vals l) from List.mem_map.2 ⟨_,hvm,rfl⟩) hr0)]
     obtain⟨e1,e2⟩:=fn_err (sh:=sh) (show fnE hs nd wr sz st ph me sh rows vals l≠0 by rw [e];decide)
     rw [e1,e2,e]
     exact d4'
   ·have hfr:(fnR hs nd wr sz me rows vals) ((decL hs nd wr sz st ph l).getD k (0,0,()))=rows.getD (idxF ((decL hs nd wr sz st ph l).getD k (0,0,())).1 hs 0).toNat []:=if_pos (by omega)
    have hrl2:=hrl
    rw [hfr] at hrl2
    refine yn ((((rows.getD ((idxF (((decL hs nd wr sz st ph l).getD k (0,0,())).1) hs 0).toNat) []).length:Nat):Int)=0) (fun h5=> ?_) fun h5=> ?_
    ·refine⟨w4',?_⟩
     have hr0:((fnR hs nd wr sz me rows vals) ((decL hs nd wr sz st ph l).getD k (0,0,()))).length=0:=by rw [hfr];omega
     have e:fnE hs nd wr sz st ph me sh rows vals l=17:=by unfold fnE;rw [if_pos (nw h0),if_neg (allN_no (show(fnR hs nd wr sz me rows vals) ((decL hs nd wr sz st ph l).getD k (0,0,()))∈(fnL hs nd wr sz st ph me rows vals l) from List.mem_map.2 ⟨_,hvm,rfl⟩) hr0)]
     obtain⟨e1,e2⟩:=fn_err (sh:=sh) (show fnE hs nd wr sz st ph me sh rows vals l≠0 by rw [e];decide)
     rw [e1,e2,e]
     exact d4'
    ·have hrp:0<((fnR hs nd wr sz me rows vals) ((decL hs nd wr sz st ph l).getD k (0,0,()))).length:=by rw [hfr];omega
     have hnx:allN (((decL hs nd wr sz st ph l).take (k+1)).map (fnR hs nd wr sz me rows vals)):=by rw [hst];exact allN_snoc hc1_1 hrp
     refine⟨w2',l9 (((decL hs nd wr sz st ph l).take k).map (fnR hs nd wr sz me rows vals)).length,r64 (k+1),?_⟩
     exact⟨rfl,(decL hs nd wr sz st ph l).length-(k+1),by omega,k+1,by omega,hnx,rfl,rfl,by rw [hst,hfr];rfl⟩
  ·have hmk:=hml k
   refine⟨rfl,⟨os ((((decL hs nd wr sz st ph l).take k).map (fnR hs nd wr sz me rows vals)).length≤1048576),fun x hx=>by obtain⟨v,_,rfl⟩:=List.mem_map.1 hx;exact okR_le (hor v) (by omega)⟩,w4',w4',?_⟩
   have hk:k=(decL hs nd wr sz st ph l).length:=by omega
   have hfl:((decL hs nd wr sz st ph l).take k).map (fnR hs nd wr sz me rows vals)=(fnL hs nd wr sz st ph me rows vals l):=by rw [hk,List.take_length];rfl
   have e:fnE hs nd wr sz st ph me sh rows vals l=updE me sh (fnL hs nd wr sz st ph me rows vals l):=by unfold fnE;rw [if_pos (nw h0),if_pos (hfl▸hc1_1)]
   obtain⟨e1,e2⟩:=fn_upd e
   rw [e1,e2,e,←hfl]
   exact d4'
noncomputable def CFin:List (Nat×Con):=(20,pureC [.v tTk,.v tSt,.v (.sl tPo)] sFin)::CRow
theorem kFin:Known Tryd.prog (En CFin tys G6 QOth):=Known.frz0<|(kRow.frz [1000002]).addQ Tryd.func20 Tryd.call20 [.k,.k] fun ds _ _ _ h=>by unfold sFin at h;split at h;exact bFin _ _ _ _ _ _ _ _ _ _ _;cases h
noncomputable def sRFin:List V→Option (Prop×V×List Blk)
 |[.agg [.sl false (.int .i64) hs,.int .i64 nd,.int .i64 wr,.int .i64 sz,.int .i64 st,.int .i64 ph],.agg [.int .i64 me,.str sh,.sl false (.sl .str) rows,.sl false (.sl (.sl .str)) vals],.sl false (.cons (.int .i64) (.cons (.sl (.int .i64)) .nil)) l]=>some (hs.length≤2000000∧l.length≤20∧(∀p∈l,p.2.1.length≤1048576)∧rows.length=hs.length∧vals.length=hs.length∧(∀x∈vals,x.length=hs.length)∧(∀v∈vals,∀x∈v,0<x.length→((x.getD 0 []).length:Int)=sz)∧(∀r∈rows,okR nd sz r)∧0≤me∧me<12∧nd≤7,.agg [.int .i64 (rfH hs nd wr sz st ph me sh rows vals l),.str (rfS hs nd wr sz st ph me sh rows vals l),.int .i64 (rfE hs nd wr sz st ph me rows vals l)], [])
 |_=>none
theorem bRFin (hs:List Int) (nd wr sz st ph me:Int) (sh:List UInt8) (rows:List (List (List UInt8))) (vals:List (List (List (List UInt8)))) (l:List (Int×(List Int×Unit))):bodyQ (En CFin tys G6 QOth [1000002]) Tryd.f21 [.k,.k,.k] sRFin [aTk hs nd wr sz st ph,aSt me sh rows vals,.sl false tPo l]:=by
 rintro⟨hp0,hp1,(hp2:(∀p∈l,p.2.1.length≤1048576)),hp3,hp4,(hp5:(∀x∈vals,x.length=hs.length)),(hp6:(∀v∈vals,∀x∈v,0<x.length→((x.getD 0 []).length:Int)=sz)),(hp7:(∀r∈rows,okR nd sz r)),hp8,hp9,hp10⟩
 refine⟨rfl,rfl,rfl,rfl,rfl,⟨om (hs.length≤2000000),om (l.length≤20),by assumption⟩,w4',yn ((tkE hs nd wr sz st ph)≠0) (fun h0=> ?_) fun h0=> ?_⟩
 ·refine⟨w4',?_⟩
  have e:rfE hs nd wr sz st ph me rows vals l=tkE hs nd wr sz st ph:=by unfold rfE;rw [if_neg h0]
  obtain⟨e1,e2⟩:=rf_err (sh:=sh) (show rfE hs nd wr sz st ph me rows vals l≠0 by rw [e];exact h0)
  rw [e1,e2,e]
  exact d4'
 ·have hde:=dec_eq hs nd wr sz st ph l
  have hT:=tk0 (nw h0)
  have hl12:=hT.l12
  have hsb:∀h∈hs,0≤h∧h<12:=hT.hs12
  obtain⟨⟨n1,n2⟩,⟨w1,w2⟩,⟨z1,z2⟩,_⟩:=hT.rg.1
  have hdl:=dec_len hs nd wr sz st ph l
  rw [hde] at hdl
  have hor:∀v,okR nd sz ((fnR hs nd wr sz me rows vals) v):=fun v=>rw_right n1 (by omega) hp7
  have hml:∀k,(((rdL hs nd wr sz st ph l).take k).map (fnR hs nd wr sz me rows vals)).length≤hs.length:=fun k=>by rw [List.length_map,List.length_take];omega
  refine⟨5, [(3,.k),(4,.k),(6,.k),(7,.k),(8,.w (.sl .str)),(9,.k)],fun nM vs H=>∃(k:Nat),k≤(rdL hs nd wr sz st ph l).length∧allN (((rdL hs nd wr sz st ph l).take k).map (fnR hs nd wr sz me rows vals))∧nM=(rdL hs nd wr sz st ph l).length-k∧vs= [.p 0,.p 1,.p 2,.p 4,.own (.sl .str) 5,.i k]∧H= [cTk hs nd wr sz st ph,cSt me sh rows vals,.cells [.i 0,.str ([]),.i 0],.r (.cons (.int .i64) (.cons (.int .i64) .nil)) (rdL hs nd wr sz st ph l),.cells [.own (.cons (.int .i64) (.cons (.int .i64) .nil)) 3,.i (tkE hs nd wr sz st ph)],.row false (.sl .str) (((rdL hs nd wr sz st ph l).take k).map (fnR hs nd wr sz me rows vals))],⟨rfl,(rdL hs nd wr sz st ph l).length,0,by omega,rfl,by omega,rfl,rfl⟩,?_⟩
  rintro nM vs H ⟨k,hc1_0,hc1_1,rfl,rfl,rfl⟩
  refine yn ((k:Int)<(((rdL hs nd wr sz st ph l).length:Nat):Int)) (fun h1=> ?_) fun h1=> ?_
  ·have hkl:k<(rdL hs nd wr sz st ph l).length:=by omega
   have hvm:=gmem (0,0,()) (rdL hs nd wr sz st ph l) k hkl
   rw [←hde] at hvm
   obtain⟨b0,b1⟩:=dec_bd hvm
   obtain⟨po0,po1,po2⟩:=pos_of (dec_mem hvm)
   have hvd:=dec_mem hvm
   rw [hde] at hvd
   rw [hde] at hvm b0 b1 po0 po1 po2
   have hst:=map_take_snoc (0,0,()) (fnR hs nd wr sz me rows vals) (rdL hs nd wr sz st ph l) k hkl
   have hmk:=hml k
   have hrl:=okR_le (hor ((rdL hs nd wr sz st ph l).getD k (0,0,()))) (by omega)
   have hrl2:(rwL hs nd wr sz me rows vals ((rdL hs nd wr sz st ph l).getD k (0,0,())).1 ((rdL hs nd wr sz st ph l).getD k (0,0,())).2.1).length≤1048576:=hrl
   refine⟨by kernel_rfl,ix k (rdL hs nd wr sz st ph l).length,rfl,rfl,rfl,rfl,rfl,rfl,rfl,rfl,⟨om (hs.length≤12),hsb,om (vals.length=hs.length),hp5,om (0≤wr),om (wr≤12),om (1≤sz),om (sz≤4096),hvd,om (0≤((((rdL hs nd wr sz st ph l).getD k (0,0,())).2).1)),om (((((rdL hs nd wr sz st ph l).getD k (0,0,())).2).1)<4096),hp6,om (rows.length=hs.length),om (0≤me),om (me<12),om (2≤nd),om (nd≤7)⟩,yn ((((rwL hs nd wr sz me rows vals (((rdL hs nd wr sz st ph l).getD k (0,0,())).1) ((((rdL hs nd wr sz st ph l).getD k (0,0,())).2).1)).length:Nat):Int)=0) (fun h2=> ?_) fun h2=> ?_⟩
   ·refine⟨w4',?_⟩
    have hr0:((fnR hs nd wr sz me rows vals) ((rdL hs nd wr sz st ph l).getD k (0,0,()))).length=0:=by have h9:(((fnR hs nd wr sz me rows vals) ((rdL hs nd wr sz st ph l).getD k (0,0,()))).length:Int)=0:=h2;omega
    have e:rfE hs nd wr sz st ph me rows vals l=17:=by unfold rfE;rw [if_pos (nw h0),if_neg (allN_no (show(fnR hs nd wr sz me rows vals) ((rdL hs nd wr sz st ph l).getD k (0,0,()))∈(fnL hs nd wr sz st ph me rows vals l) from List.mem_map.2 ⟨_,(by rw [hde];exact hvm),rfl⟩) hr0)]
    obtain⟨e1,e2⟩:=rf_err (sh:=sh) (show rfE hs nd wr sz st ph me rows vals l≠0 by rw [e];decide)
    rw [e1,e2,e]
    exact d4'
   ·have hrp:0<((fnR hs nd wr sz me rows vals) ((rdL hs nd wr sz st ph l).getD k (0,0,()))).length:=by have h9:¬(((fnR hs nd wr sz me rows vals) ((rdL hs nd wr sz st ph l).getD k (0,0,()))).length:Int)=0:=h2;omega
    have hnx:allN (((rdL hs nd wr sz st ph l).take (k+1)).map (fnR hs nd wr sz me rows vals)):=by rw [hst];exact allN_snoc hc1_1 hrp
    refine⟨w2',l9 (((rdL hs nd wr sz st ph l).take k).map (fnR hs nd wr sz me rows vals)).length,r64 (k+1),?_⟩
    exact⟨rfl,(rdL hs nd wr sz st ph l).length-(k+1),by omega,k+1,by omega,hnx,rfl,rfl,by rw [hst];rfl⟩
  ·have hmk:=hml k
   refine⟨rfl,⟨os ((((rdL hs nd wr sz st ph l).take k).map (fnR hs nd wr sz me rows vals)).length≤1048576),fun x hx=>by obtain⟨v,_,rfl⟩:=List.mem_map.1 hx;exact okR_le (hor v) (by omega)⟩,w4',w4',?_⟩
   have hk:k=(rdL hs nd wr sz st ph l).length:=by omega
   have hfl:((rdL hs nd wr sz st ph l).take k).map (fnR hs nd wr sz me rows vals)=(fnL hs nd wr sz st ph me rows vals l):=by rw [hk,List.take_length];unfold fnL;rw [hde]
   have e:rfE hs nd wr sz st ph me rows vals l=0:=by unfold rfE;rw [if_pos (nw h0),if_pos (hfl▸hc1_1)]
   obtain⟨e1,e2⟩:=rf_upd (sh:=sh) e
   rw [e1,e2,e,←hfl]
   exact d4'
noncomputable def CRFin:List (Nat×Con):=(21,pureC [.v tTk,.v tSt,.v (.sl tPo)] sRFin)::CFin
theorem kRFin:Known Tryd.prog (En CRFin tys G6 QOth):=Known.frz0<|(kFin.frz [1000002]).addQ Tryd.func21 Tryd.call21 [.k,.k,.k] fun ds _ _ _ h=>by unfold sRFin at h;split at h;exact bRFin _ _ _ _ _ _ _ _ _ _ _;cases h
theorem pos_lt:∀m,m<12→∀a,a<m→∀b,b<m→posT m a b<m*(m+1)/2∧posT m a b=posT m b a:=by decide+kernel
theorem mkD_get {m z:Nat} {s:List UInt8} {a b:Nat} (ha:a<m) (hb:b<m):((mkD m z s).getD a []).getD b []=(dn z (posT m a b) s).take z:=by
 simp [mkD,List.getD_eq_getElem?_getD,ha,hb]
theorem mkD_row {m z:Nat} {s:List UInt8} {l:Rw} (h:l∈mkD m z s):∃a,a<m∧l=(List.range m).map fun b=>(dn z (posT m a b) s).take z:=by
 obtain⟨a,ha,rfl⟩:=List.mem_map.1 h
 exact⟨a,List.mem_range.1 ha,rfl⟩
theorem mkD_len (m z:Nat) (s:List UInt8):(mkD m z s).length=m:=by simp [mkD]
theorem mkD_str {m z:Nat} {s:List UInt8} (hm:m<12) (hl:s.length=z*(m*(m+1)/2)) {a b:Nat} (ha:a<m) (hb:b<m):((dn z (posT m a b) s).take z).length=z:=by
 rw [List.length_take,dn_len,hl]
 have h:=(pos_lt m hm a ha b hb).1
 generalize posT m a b=p at h
 generalize m*(m+1)/2=K at h
 have h2:(p+1)*z≤K*z:=Nat.mul_le_mul_right z h
 rw [Nat.succ_mul] at h2
 rw [Nat.mul_comm z K]
 omega
theorem mk_deal {nd sz:Int} {s:List UInt8} (h:mkE nd sz s=0):chkD nd (mkC nd sz s)=0∧n00 (mkC nd sz s)=sz.toNat:=by
 have hC:mkC nd sz s=mkD (nd-1).toNat sz.toNat s:=if_pos h
 unfold mkE at h
 split at h
 ·cases h
 ·rename_i h1
  split at h
  ·rename_i h2
   rw [hC]
   generalize hm:(nd-1).toNat=m
   have hm1:1≤m∧m<12:=by omega
   have hnd:nd=(m:Int)+1:=by omega
   have hl:s.length=sz.toNat*(m*(m+1)/2):=by
    have e:(nd-1)*nd/2=((m*(m+1)/2:Nat):Int):=by
     rw [hnd,show(m:Int)+1-1=(m:Int) by omega,Int.natCast_ediv,Int.natCast_mul,Int.natCast_add];rfl
    rw [e] at h2
    have:((s.length:Nat):Int)=((sz.toNat*(m*(m+1)/2):Nat):Int):=by rw [h2,Int.natCast_mul,Int.toNat_of_nonneg (by omega)]
    exact Int.ofNat_inj.1 this
   have h00:n00 (mkD m sz.toNat s)=sz.toNat:=by
    show(((mkD m sz.toNat s).getD 0 []).getD 0 []).length=_
    rw [mkD_get (by omega) (by omega),mkD_str hm1.2 hl (by omega) (by omega)]
   refine⟨?_,h00⟩
   unfold chkD
   rw [if_neg (by omega),if_neg (by rw [mkD_len];omega),if_neg,if_neg (by omega),if_neg]
   ·intro e
    have:symB (mkD m sz.toNat s) (mkD m sz.toNat s).length=true:=by
     rw [mkD_len]
     refine List.all_eq_true.2 fun a ha=>List.all_eq_true.2 fun b hb=>decide_eq_true ?_
     have ha:=List.mem_range.1 ha
     have hb:=List.mem_range.1 hb
     rw [mkD_get ha (by omega),mkD_get (by omega) ha,(pos_lt m hm1.2 a ha b (by omega)).2]
    rw [this] at e;cases e
   ·intro e
    have:(mkD m sz.toNat s).all (lenB (mkD m sz.toNat s))=true:=by
     refine List.all_eq_true.2 fun l hl'=> ?_
     obtain⟨a,ha,rfl⟩:=mkD_row hl'
     refine lenB_yes (by rw [mkD_len];simp) ?_ (List.all_eq_true.2 fun x hx=>decide_eq_true ?_)
     ·rw [mkD_len]
      simp [mkD,List.getD_eq_getElem?_getD,show 0<m by omega]
     ·obtain⟨b,hb,rfl⟩:=List.mem_map.1 hx
      rw [h00,mkD_str hm1.2 hl ha (List.mem_range.1 hb)]
    rw [this] at e;cases e
  ·cases h
structure SOk (hs:List Int) (nd sz:Int) (R:List (List (List UInt8))) (W:List (List (List (List UInt8)))):Prop where
 rl:R.length=hs.length
 vl:W.length=hs.length
 vv:∀x∈W,x.length=hs.length
 ro:∀r∈R,okR nd sz r
 vo:∀x∈W,∀y∈x,y.length=0∨((y.length:Int)=1∧((y.getD 0 []).length:Int)=sz)
theorem SOk.mxR {hs:List Int} {nd sz:Int} {R:List (List (List UInt8))} {W:List (List (List (List UInt8)))} (h:SOk hs nd sz R W) (hn:nd≤12):∀r∈R,r.length≤1048576:=fun r hr=>okR_le (h.ro r hr) (by omega)
theorem SOk.mxV {hs:List Int} {nd sz:Int} {R:List (List (List UInt8))} {W:List (List (List (List UInt8)))} (h:SOk hs nd sz R W):∀x∈W,∀y∈x,y.length≤1048576:=fun x hx y hy=>by
 rcases h.vo x hx y hy with g|g<;>omega
theorem SOk.mxW {hs:List Int} {nd sz:Int} {R:List (List (List UInt8))} {W:List (List (List (List UInt8)))} (h:SOk hs nd sz R W) (hh:hs.length≤1048576):∀x∈W,x.length≤1048576∧∀y∈x,y.length≤1048576:=fun x hx=>⟨by rw [h.vv x hx];exact hh,h.mxV x hx⟩
theorem SOk.szd {hs:List Int} {nd sz:Int} {R:List (List (List UInt8))} {W:List (List (List (List UInt8)))} (h:SOk hs nd sz R W):∀v∈W,∀x∈v,0<x.length→((x.getD 0 []).length:Int)=sz:=fun v hv x hx h0=>by
 rcases h.vo v hv x hx with g|g
 ·omega
 ·exact g.2
theorem mk_okR {nd sz:Int} {nz:List UInt8} (h:mkE nd sz nz=0) (x:Int):okR nd sz (rowL (mkN nd sz nz) (mkC nd sz nz) x):=by
 obtain⟨h1,h2⟩:=mk_deal h
 have hd:=chkD0 h1
 unfold rowL
 split
 ·refine .inr ⟨?_,fun s hs=> ?_⟩
  ·unfold rowD
   rw [List.length_map]
   exact hd.len
  ·obtain⟨l,hl,rfl⟩:=List.mem_map.1 hs
   have hz:0≤sz:=by
    unfold mkE at h
    split at h
    ·cases h
    ·omega
   have hll:=hd.rows l hl
   have hln:=hd.len
   have:=hd.n2
   rw [at_len l (by omega) (hd.strs l hl),h2]
   omega
 ·exact .inl rfl
theorem mem_set {α:Type} {l:List α} {i:Nat} {a x:α} (h:x∈l.set i a):x∈l∨x=a:=List.mem_or_eq_of_mem_set h
theorem beg_mkE {hs:List Int} {nd wr sz st ph me:Int} {sh nz:List UInt8} (h:begE hs nd wr sz st ph me sh nz=0):tkE hs nd wr sz st ph=0∧me∈hs∧mkE nd sz nz=0∧(sh.length:Int)=sz:=by
 unfold begE at h
 split at h
 ·rename_i h0
  split at h
  ·cases h
  ·rename_i h1
   split at h
   ·rename_i h2
    exact⟨h0,(idxF_mem me hs 0 (by omega)).1 (by omega),h2.1,h2.2⟩
   ·cases h
 ·contradiction
theorem SOk.beg {hs:List Int} {nd wr sz st ph me:Int} {sh nz:List UInt8} (h:begE hs nd wr sz st ph me sh nz=0):SOk hs nd sz (begR hs nd wr sz st ph me sh nz) (begV hs nd wr sz st ph me sh nz):=by
 obtain⟨b1,b2,b3,b4⟩:=beg_mkE h
 obtain⟨_,_,e3,e4,_⟩:=beg_ok h
 rw [e3,e4]
 refine⟨by simp,by simp,fun x hx=> ?_,fun r hr=> ?_,fun x hx y hy=> ?_⟩
 ·rw [List.eq_of_mem_replicate hx,List.length_replicate]
 ·rcases mem_set hr with g|g
  ·rw [List.eq_of_mem_replicate g];exact .inl rfl
  ·rw [g];exact mk_okR b3 me
 ·rw [List.eq_of_mem_replicate hx] at hy
  rw [List.eq_of_mem_replicate hy];exact .inl rfl
theorem szd_all {ss:List (List UInt8)} {n z:Int} (h:szdP ss n z):(ss.length:Int)=n∧∀s∈ss,(s.length:Int)=z:=⟨h.1,fun s hs=>Classical.byContradiction fun g=>h.2 ⟨s,hs,g⟩⟩
theorem SOk.rcv {hs:List Int} {nd sz st ph me mk f t d tick:Int} {ss:List (List UInt8)} {R:List (List (List UInt8))} {W:List (List (List (List UInt8)))} (h:SOk hs nd sz R W):SOk hs nd sz (rcvR hs nd sz st ph me R mk f t d ss tick) (rcvV hs sz st ph me W mk f t d ss tick):=by
 have hR:(rcvR hs nd sz st ph me R mk f t d ss tick).length=hs.length∧∀r∈rcvR hs nd sz st ph me R mk f t d ss tick,okR nd sz r:=by
  unfold rcvR
  split
  ·rename_i g
   refine⟨by rw [List.length_set];exact h.rl,fun r hr=> ?_⟩
   rcases mem_set hr with e|e
   ·exact h.ro r e
   ·rw [e];exact .inr (szd_all g.2.2.2.2.1)
  ·exact⟨h.rl,h.ro⟩
 have hV:(rcvV hs sz st ph me W mk f t d ss tick).length=hs.length∧(∀x∈rcvV hs sz st ph me W mk f t d ss tick,x.length=hs.length)∧∀x∈rcvV hs sz st ph me W mk f t d ss tick,∀y∈x,y.length=0∨((y.length:Int)=1∧((y.getD 0 []).length:Int)=sz):=by
  unfold rcvV
  split
  ·rename_i g
   have g1:¬idxF d hs 0<0:=fun e=>g.1 (by unfold rcvN;omega)
   have g2:=idx_lt g1
   have hm:=gmem [] W (idxF d hs 0).toNat (by rw [h.vl];exact g2)
   refine⟨by rw [List.length_set];exact h.vl,fun x hx=> ?_,fun x hx y hy=> ?_⟩
   ·rcases mem_set hx with e|e
    ·exact h.vv x e
    ·rw [e,List.length_set];exact h.vv _ hm
   ·rcases mem_set hx with e|e
    ·exact h.vo x e y hy
    ·rw [e] at hy
     rcases mem_set hy with e|e
     ·exact h.vo _ hm y e
     ·obtain⟨s1,s2⟩:=szd_all g.2.2.2.1
      rw [e];exact .inr ⟨s1,s2 _ (gmem [] ss 0 (by omega))⟩
  ·exact⟨h.vl,h.vv,h.vo⟩
 exact⟨hR.1,hV.1,hV.2.1,hR.2,hV.2.2⟩
theorem fin_same {hs:List Int} {nd wr sz st ph me:Int} {sh:List UInt8} {R:List (List (List UInt8))} {W:List (List (List (List UInt8)))} (l:List RP) (h:SOk hs nd sz R W) (h0:tkE hs nd wr sz st ph=0) (hm:me∈hs) (hs_:(sh.length:Int)=sz):
  fnE hs nd wr sz st ph me sh R W l=rfE hs nd wr sz st ph me R W l∧fnH hs nd wr sz st ph me sh R W l=rfH hs nd wr sz st ph me sh R W l∧fnS hs nd wr sz st ph me sh R W l=rfS hs nd wr sz st ph me sh R W l:=by
 have hT:=tk0 h0
 obtain⟨⟨n1,n2⟩,_,⟨z1,z2⟩,_⟩:=hT.rg.1
 by_cases ha:allN (fnL hs nd wr sz st ph me R W l)
 ·have hu:updE me sh (fnL hs nd wr sz st ph me R W l)=0:=upd_ok ⟨n1,n2⟩ ⟨by omega,z2⟩ (hT.hs12 me hm) hs_ (fun r hr=>by obtain⟨v,_,rfl⟩:=List.mem_map.1 hr;exact rw_right n1 (by omega) h.ro) ha
  have e1:fnE hs nd wr sz st ph me sh R W l=0:=by unfold fnE;rw [if_pos h0,if_pos ha,hu]
  have e2:rfE hs nd wr sz st ph me R W l=0:=by unfold rfE;rw [if_pos h0,if_pos ha]
  refine⟨by rw [e1,e2],?_,?_⟩
  ·unfold fnH rfH updH;rw [if_pos e1,if_pos e2,if_pos hu]
  ·unfold fnS rfS updS;rw [if_pos e1,if_pos e2,if_pos hu]
 ·have e1:fnE hs nd wr sz st ph me sh R W l=17:=by unfold fnE;rw [if_pos h0,if_neg ha]
  have e2:rfE hs nd wr sz st ph me R W l=17:=by unfold rfE;rw [if_pos h0,if_neg ha]
  obtain⟨f1,f2⟩:=fn_err (sh:=sh) (show fnE hs nd wr sz st ph me sh R W l≠0 by rw [e1];decide)
  obtain⟨g1,g2⟩:=rf_err (sh:=sh) (show rfE hs nd wr sz st ph me R W l≠0 by rw [e2];decide)
  exact⟨by rw [e1,e2],by rw [f1,g1],by rw [f2,g2]⟩
theorem rowL_le (nd:Int) (cf:List (List (List UInt8))) (h:Int):(rowL nd cf h).length≤cf.length:=by
 unfold rowL
 split
 ·unfold rowD;rw [List.length_map];exact Nat.le_refl _
 ·exact Nat.zero_le _
structure BMx (hs:List Int) (R:List (List (List UInt8))) (W:List (List (List (List UInt8)))) (M:List Ml):Prop where
 m:M.length≤1048576
 ms:∀m∈M,m.2.2.2.2.1.length≤1048576
 r:R.length≤1048576
 v:W.length≤1048576
 rs:∀x∈R,x.length≤1048576
 vs:∀x∈W,x.length≤1048576∧∀y∈x,y.length≤1048576
theorem beg_mx {hs:List Int} {nd wr sz st ph me:Int} {sh nz:List UInt8} (hh:hs.length≤1048576) (hz:nz.length≤1048576):BMx hs (begR hs nd wr sz st ph me sh nz) (begV hs nd wr sz st ph me sh nz) (begM hs nd wr sz st ph me sh nz):=by
 have hc:=mkC_mx nd sz hz
 by_cases h:begE hs nd wr sz st ph me sh nz=0
 ·obtain⟨_,_,e3,e4,e5⟩:=beg_ok h
  rw [e3,e4,e5]
  refine⟨Nat.le_trans (beg1_len ..) hh,fun m hm=> ?_,by simpa using hh,by simpa using hh,fun x hx=> ?_,fun x hx=> ?_⟩
  ·obtain⟨p,_,rfl⟩:=List.mem_map.1 hm
   exact Nat.le_trans (rowL_le _ _ _) hc.1
  ·rcases mem_set hx with g|g
   ·rw [List.eq_of_mem_replicate g];exact Nat.zero_le _
   ·rw [g];exact Nat.le_trans (rowL_le _ _ _) hc.1
  ·rw [List.eq_of_mem_replicate hx]
   exact⟨by simpa using hh,fun y hy=>by rw [List.eq_of_mem_replicate hy];exact Nat.zero_le _⟩
 ·obtain⟨_,_,e3,e4,e5⟩:=beg_err h
  rw [e3,e4,e5]
  exact⟨Nat.zero_le _,(fun _ h=>by cases h),Nat.zero_le _,Nat.zero_le _,(fun _ h=>by cases h),(fun _ h=>by cases h)⟩
theorem cmpK_mx (hs:List Int) (me:Int) (R:List (List (List UInt8))):∀k,∀m∈cmpK hs me R k,m.2.2.2.2.1.length≤1048576
 |0,m,h=>by simp [cmpK] at h
 | k+1,m,h=>by
  rw [cmpK] at h
  rcases List.mem_append.1 h with h|h
  ·exact cmpK_mx hs me R k m h
  ·split at h
   ·cases h
   ·obtain⟨p,_,rfl⟩:=List.mem_map.1 h
    show(1:Nat)≤1048576
    omega
instance (nd sz:Int) (r:List (List UInt8)):Decidable (okR nd sz r):=by unfold okR;infer_instance
noncomputable def fnM (hs:List Int) (nd wr sz st ph me:Int) (rows:List (List (List UInt8))) (vals:List (List (List (List UInt8)))) (l:List RP):List (List (List UInt8)):=(decD hs nd wr sz st ph l).map (fnR hs nd wr sz me rows vals)
theorem fnL_D (hs:List Int) (nd wr sz st ph me:Int) (rows:List (List (List UInt8))) (vals:List (List (List (List UInt8)))) (l:List RP):fnL hs nd wr sz st ph me rows vals l=fnM hs nd wr sz st ph me rows vals l:=by
 unfold fnL fnM
 rw [dec_D]
noncomputable def fnF (hs:List Int) (nd wr sz st ph me:Int) (sh:List UInt8) (rows:List (List (List UInt8))) (vals:List (List (List (List UInt8)))) (l:List RP):Int:=
 if tkE hs nd wr sz st ph=0 then(if allN (fnM hs nd wr sz st ph me rows vals l) then updE me sh (fnM hs nd wr sz st ph me rows vals l) else 17) else tkE hs nd wr sz st ph
theorem fnE_D (hs:List Int) (nd wr sz st ph me:Int) (sh:List UInt8) (rows:List (List (List UInt8))) (vals:List (List (List (List UInt8)))) (l:List RP):fnE hs nd wr sz st ph me sh rows vals l=fnF hs nd wr sz st ph me sh rows vals l:=by
 unfold fnE fnF
 rw [fnL_D]
theorem fnH_D (hs:List Int) (nd wr sz st ph me:Int) (sh:List UInt8) (rows:List (List (List UInt8))) (vals:List (List (List (List UInt8)))) (l:List RP):fnH hs nd wr sz st ph me sh rows vals l=if fnF hs nd wr sz st ph me sh rows vals l=0 then me else 0:=by
 unfold fnH
 rw [fnE_D]
theorem fnS_D (hs:List Int) (nd wr sz st ph me:Int) (sh:List UInt8) (rows:List (List (List UInt8))) (vals:List (List (List (List UInt8)))) (l:List RP):fnS hs nd wr sz st ph me sh rows vals l=if fnF hs nd wr sz st ph me sh rows vals l=0 then updB me sh (fnM hs nd wr sz st ph me rows vals l) else []:=by
 unfold fnS
 rw [fnE_D,fnL_D]
def fewP (hs:List Int) (nd wr sz st ph:Int):Prop:=hs.length≤20∧((hs.length≤7∧sz≤4)∨tkE hs nd wr sz st ph≠0)
noncomputable def sFew:List V→Option (Prop×V×List Blk)
 |[.agg [.sl false (.int .i64) hs,.int .i64 nd,.int .i64 wr,.int .i64 sz,.int .i64 st,.int .i64 ph]]=>some (hs.length≤2000000,.b (fewP hs nd wr sz st ph), [])
 |_=>none
theorem bFew (hs:List Int) (nd wr sz st ph:Int):bodyQ (En CRFin tys G6 QOth) Tryd.f6 [.k] sFew [aTk hs nd wr sz st ph]:=by
 intro hp0
 refine yn ((hs.length:Int)≤20) (fun h0=> ?_) fun h0=> ?_
 ·refine yn ((hs.length:Int)≤7) (fun h1=> ?_) fun h1=> ?_
  ·refine ny (sz≤4) (fun h2=> ?_) fun h2=> ?_
   ·refine⟨rfl,rfl,rfl,rfl,rfl,om (hs.length≤2000000),?_⟩
    exact⟨rfl,rfl,congrArg V.b (propext (show tkE hs nd wr sz st ph≠0↔fewP hs nd wr sz st ph from⟨fun h=>⟨by omega,.inr h⟩,fun h=>(And.right h).resolve_left fun g=>by omega⟩)),rfl⟩
   ·exact⟨rfl,rfl,congrArg V.b (propext ⟨fun _=>⟨by omega,.inl ⟨by omega,by omega⟩⟩,fun _=>rfl⟩),rfl⟩
  ·refine⟨rfl,rfl,rfl,rfl,rfl,om (hs.length≤2000000),?_⟩
   exact⟨rfl,rfl,congrArg V.b (propext (show tkE hs nd wr sz st ph≠0↔fewP hs nd wr sz st ph from⟨fun h=>⟨by omega,.inr h⟩,fun h=>(And.right h).resolve_left fun g=>by omega⟩)),rfl⟩
 ·exact⟨rfl,rfl,congrArg V.b (propext ⟨fun h=>Bool.noConfusion h,fun h=>absurd (And.left h) (by omega)⟩),rfl⟩
noncomputable def CFew:List (Nat×Con):=(6,pureC [.v tTk] sFew)::CRFin
theorem kFew:Known Tryd.prog (En CFew tys G6 QOth):=kRFin.addQ Tryd.func6 Tryd.call6 [.k] fun ds _ _ _ h=>by unfold sFew at h;split at h;exact bFew _ _ _ _ _ _;cases h
noncomputable def sExa:List V→Option (Prop×V×List Blk)
 |[]=>some (True,.agg [.sl true (.int .i64) ([0,1,2]),.int .i64 2,.int .i64 0,.int .i64 1,.int .i64 10,.int .i64 2], [])
 |_=>none
theorem bExa  :bodyQ (En CFew tys G6 QOth) Tryd.f29 [.d (.int .i64),.k,.k,.k,.k,.k] sExa []:=by
 intro _
 refine⟨rfl,rfl,rfl,w4',?_⟩
 exact d4'
noncomputable def CExa:List (Nat×Con):=(29,pureC [] sExa)::CFew
theorem kExa:Known Tryd.prog (En CExa tys G6 QOth):=kFew.addQ Tryd.func29 Tryd.call29 [.d (.int .i64),.k,.k,.k,.k,.k] fun ds _ _ _ h=>by unfold sExa at h;split at h;exact bExa;cases h
noncomputable def sSan:List V→Option (Prop×V×List Blk)
 |[]=>some (True,.b True, [])
 |_=>none
def z0:List Int:= [0,1,2]
def z1:List (List UInt8):= [[4]]
def z2:List (List UInt8):= [[9]]
def z3:List (List UInt8):= [[8]]
def z4:=begM z0 2 0 1 10 2 0 ([7]) ([4])
def z5:=begR z0 2 0 1 10 2 0 ([7]) ([4])
def z6:=begV z0 2 0 1 10 2 0 ([7]) ([4])
def z7:=begH z0 2 0 1 10 2 0 ([7]) ([4])
def z8:=begS z0 2 0 1 10 2 0 ([7]) ([4])
def z9:=rcvV z0 1 10 2 z7 z6 1 1 0 1 z2 11
def z10:=rcvV z0 1 10 2 z7 z6 1 1 0 1 z2 12
def z11:=rcvV z0 1 10 2 z7 z9 1 1 0 1 z3 11
def z12:=rcvV z0 1 10 2 z7 z6 2 1 0 0 z1 13
def z13:=rcvV z0 1 10 2 z7 z12 2 2 0 0 z1 13
def z14:=rcvR z0 2 1 10 2 z7 z5 1 1 0 1 z2 11
def z15:=rcvR z0 2 1 10 2 z7 z5 1 1 0 1 z2 12
def z16:=rcvR z0 2 1 10 2 z7 z5 2 1 0 0 z1 13
def z17:=rcvR z0 2 1 10 2 z7 z14 1 1 0 1 z3 11
def z18:=rcvR z0 2 1 10 2 z7 z16 2 2 0 0 z1 13
def z19:=pstL z0 z7 z18 z13
def z20:List (Int×(List Int×Unit)):= [(z7,pstL z0 z7 z18 z13,()),(1,pstL z0 z7 z18 z13,())]
def z21:List (Int×(Int×(Int×(Int×(List (List UInt8)×Unit))))):= [(1,0,1,0,z1,()),(1,0,2,0,z1,())]
def z22:List (Int×(List Int×Unit)):= [(z7,pstL z0 z7 z18 z13,()),(1,pstL z0 z7 z18 z13,()),(2,pstL z0 z7 z18 z13,())]
theorem bSan  :bodyQ (En CExa tys G6 QOth [1000001,1000002,1000004,7000000]) Tryd.f7 [.k] sSan []:=by
 intro _
 refine⟨trivial,w4',rfl,rfl,rfl,rfl,rfl,rfl,⟨oc (z0.length≤1000),oc (tkE z0 2 0 1 10 2=0→2≤7),oc (([7]).length≤1048576),oc (([4]).length≤1048576)⟩,w4',rfl,rfl,rfl,rfl,rfl,rfl,rfl,rfl,fun h0=> ?_,dn ((begE z0 2 0 1 10 2 0 ([7]) ([4]))≠0)⟩
 refine⟨⟨oc (z4.length≤1048576),oc (z21.length≤1048576),oc (∀m∈z4,m.2.2.2.2.1.length≤1048576),oc (∀m∈z21,m.2.2.2.2.1.length≤1048576)⟩,fun h1=> ?_,dn (¬(z4=z21))⟩
 refine⟨rfl,rfl,rfl,rfl,rfl,oc (z0.length≤2000000),dn ((tkE z0 2 0 1 10 2)≠0),fun h2=> ?_⟩
 refine⟨w4',rfl,rfl,rfl,rfl,rfl,rfl,rfl,rfl,rfl,rfl,rfl,⟨oc (tkE z0 2 0 1 10 2=0),oc (z5.length=z0.length),oc (z6.length=z0.length),oc (∀x∈z6,x.length=z0.length),oc (∀x∈z5,x.length≤1048576),oc (z2.length≤1048576)⟩,w4',rfl,rfl,rfl,rfl,rfl,rfl,rfl,rfl,rfl,rfl,rfl,⟨oc (tkE z0 2 0 1 10 2=0),oc (z5.length=z0.length),oc (z6.length=z0.length),oc (∀x∈z6,x.length=z0.length),oc (∀x∈z5,x.length≤1048576),oc (z2.length≤1048576)⟩,w4',rfl,rfl,rfl,rfl,rfl,rfl,rfl,rfl,rfl,rfl,rfl,⟨oc (tkE z0 2 0 1 10 2=0),oc (z14.length=z0.length),oc (z9.length=z0.length),oc (∀x∈z9,x.length=z0.length),oc (∀x∈z14,x.length≤1048576),oc (z3.length≤1048576)⟩,w4',fun h3=> ?_,dn (((z14.length:Nat):Int)≠3)⟩
 refine⟨ix 1 z14.length,⟨oc ((z14.getD 1 []).length≤1048576),oc (z2.length≤1048576)⟩,fun h4=> ?_,dn (¬((z14.getD 1 [])=z2))⟩
 refine⟨rfl,rfl,⟨oc (z15.length≤1048576),oc (z5.length≤1048576),oc (z10.length≤1048576),oc (z6.length≤1048576),oc (∀x∈z15,x.length≤1048576),oc (∀x∈z5,x.length≤1048576),oc (∀x∈z10,x.length≤1048576∧∀y∈x,y.length≤1048576),oc (∀x∈z6,x.length≤1048576∧∀y∈x,y.length≤1048576)⟩,fun h5=> ?_,dn (¬(z7=z7∧z8=z8∧z15=z5∧z10=z6))⟩
 refine⟨rfl,rfl,⟨oc (z17.length≤1048576),oc (z14.length≤1048576),oc (z11.length≤1048576),oc (z9.length≤1048576),oc (∀x∈z17,x.length≤1048576),oc (∀x∈z14,x.length≤1048576),oc (∀x∈z11,x.length≤1048576∧∀y∈x,y.length≤1048576),oc (∀x∈z9,x.length≤1048576∧∀y∈x,y.length≤1048576)⟩,dn (¬(z7=z7∧z8=z8∧z17=z14∧z11=z9)),fun h6=> ?_⟩
 refine .inr ?_
 refine⟨fun h7=> ?_,dp ((1:Int)<3)⟩
 refine⟨rfl,rfl,rfl,rfl,rfl,rfl,rfl,rfl,rfl,rfl,rfl,⟨oc (tkE z0 2 0 1 10 2=0),oc (z5.length=z0.length),oc (z6.length=z0.length),oc (∀x∈z6,x.length=z0.length),oc (∀x∈z5,x.length≤1048576),oc (z1.length≤1048576)⟩,w4',r64 2,fun h8=> ?_,dp ((2:Int)<3)⟩
 refine⟨rfl,rfl,rfl,rfl,rfl,rfl,rfl,rfl,rfl,rfl,rfl,⟨oc (tkE z0 2 0 1 10 2=0),oc (z16.length=z0.length),oc (z12.length=z0.length),oc (∀x∈z12,x.length=z0.length),oc (∀x∈z16,x.length≤1048576),oc (z1.length≤1048576)⟩,w4',r64 3,dn ((3:Int)<3),fun h9=> ?_⟩
 refine⟨rfl,rfl,rfl,rfl,rfl,rfl,⟨oc (z0.length≤1000),oc (z18.length=z0.length),oc (z13.length=z0.length),oc (∀x∈z13,x.length=z0.length),oc (∀x∈z18,x.length≤1048576),oc (∀x∈z0,0≤x∧x<12),oc (0≤z7),oc (z7<12)⟩,w4',fun h10=> ?_,dn (z7≠0)⟩
 refine⟨fun h11=> ?_,dn (((z19.length:Nat):Int)≠3)⟩
 refine⟨ix 0 z19.length,fun h12=> ?_,dn ((z19.getD 0 0)≠7)⟩
 refine⟨ix 1 z19.length,fun h13=> ?_,dn ((z19.getD 1 0)≠0)⟩
 refine⟨ix 2 z19.length,fun h14=> ?_,dn ((z19.getD 2 0)≠0)⟩
 refine⟨rfl,rfl,rfl,rfl,rfl,rfl,⟨oc (z0.length≤1000),oc (z18.length=z0.length),oc (∀x∈z18,x.length≤1048576)⟩,dn ((((cmpK z0 z7 z18 z0.length).length:Nat):Int)≠2),fun h15=> ?_⟩
 refine⟨by kernel_rfl,w4',w4',w3',w3',rfl,rfl,rfl,rfl,rfl,rfl,rfl,rfl,⟨oc (z0.length≤2000000),oc (z22.length≤20),oc (∀p∈z22,p.2.1.length≤1048576)⟩,rfl,rfl,rfl,rfl,rfl,rfl,rfl,⟨oc (z0.length≤2000000),oc (z20.length≤20),oc (∀p∈z20,p.2.1.length≤1048576)⟩,rfl,rfl,rfl,rfl,rfl,rfl,rfl,rfl,rfl,⟨oc (z0.length≤2000000),oc (z22.length≤20),oc (∀p∈z22,p.2.1.length≤1048576),oc (z18.length=z0.length),oc (z13.length=z0.length),oc (∀x∈z13,x.length=z0.length),oc (∀v∈z13,∀x∈v,0<x.length→((x.getD 0 []).length:Int)=1),oc (∀r∈z18,okR 2 1 r),oc (0≤z7),oc (z7<12),oc (2≤7)⟩,w4',fun h16=> ?_,dp ((tkE z0 2 0 1 10 2)=0)⟩
 refine⟨fun h17=> ?_,fun h17=>absurd (show(((decL z0 2 0 1 10 2 z22).length:Nat):Int)=1 by simp only [dec_D];decide+kernel) h17⟩
 refine⟨⟨by show(0:Int)≤0;first|omega|(simp only [dec_D];decide+kernel),by show 0<((decL z0 2 0 1 10 2 z22).length:Int);first|omega|(simp only [dec_D];decide+kernel)⟩,fun h18=> ?_,fun h18=>absurd (show((((decL z0 2 0 1 10 2 z22).getD 0 (0,0,())).1)=0∧(((((decL z0 2 0 1 10 2 z22).getD 0 (0,0,())).2).1)=7∧True)) by simp only [dec_D];decide+kernel) h18⟩
 refine⟨fun h19=> ?_,dp ((tkE z0 2 0 1 10 2)=0)⟩
 refine⟨fun h20=> ?_,fun h20=>absurd (show(((decL z0 2 0 1 10 2 z20).length:Nat):Int)=0 by simp only [dec_D];decide+kernel) h20⟩
 refine⟨fun h21=> ?_,fun h21=>absurd (show(fnE z0 2 0 1 10 2 z7 z8 z18 z13 z22)=0 by simp only [fnE_D];decide+kernel) h21⟩
 exact⟨rfl,rfl,congrArg V.b (propext ⟨fun _=>trivial,fun _=>by show((fnH z0 2 0 1 10 2 z7 z8 z18 z13 z22)=0∧((fnS z0 2 0 1 10 2 z7 z8 z18 z13 z22)=([3])∧True));simp only [fnH_D,fnS_D];decide+kernel⟩),rfl⟩
noncomputable def CSan:List (Nat×Con):=(7,pureC [] sSan)::CExa
theorem kSan:Known Tryd.prog (En CSan tys G6 QOth):=Known.frz0<|(kExa.frz [1000001,1000002,1000004,7000000]).addQ Tryd.func7 Tryd.call7 [.k] fun ds _ _ _ h=>by unfold sSan at h;split at h;exact bSan;cases h
theorem cg2 {α β γ:Type} (f:α→β→γ) {a a1:α} {b b1:β} (h:a=a1) (g:b=b1):f a b=f a1 b1:=by rw [h,g]
theorem bLStp (hs:List Int) (nd wr sz st ph me:Int) (tx:List (List UInt8)) (l:List ((Int×(Int×(Int×(Int×(List (List UInt8)×Unit)))))×(Int×Unit))) (ps:List (Int×(List Int×Unit))) (hp0:hs.length≤1048576) (hp1:tx.length=2) (hp2:(∀s∈tx,s.length≤1048576)) (hp3:l.length≤1048576) (hp4:(∀x∈l,x.1.2.2.2.2.1.length≤1048576)) (hp5:ps.length≤1048576) (hp6:(∀p∈ps,p.2.1.length≤1048576)):bodyP (En CSan tys G6 QOth) Tryd.f3 [.k] [aTk hs nd wr sz st ph,.int .i64 me,.dat false (.arr 2 .str) tx,.sl false (.cons tMl (.cons (.int .i64) .nil)) l,.sl false tPo ps] (.b True) []:=by
 refine⟨⟨rfl,by first|assumption|rfl|simp⟩,rfl,rfl,rfl,rfl,rfl,om (hs.length≤2000000),ny (¬(fewP hs nd wr sz st ph)) (fun h0=> ?_) fun h0=> ?_⟩
 ·refine ny (40<(l.length:Int)) (fun h1=> ?_) fun h1=> ?_
  ·refine yn (15<(ps.length:Int)) (fun h2=> ?_) fun h2=> ?_
   ·refine⟨trivial,?_⟩
    exact d4'
   ·have hfw:=nw h0
    have h20:=hfw.1
    have hnd:tkE hs nd wr sz st ph=0→nd≤7:=fun e=>by
     have hT:=tk0 e
     have g:=hfw.2.resolve_right (fun g=>g e)
     have:=hT.q1
     have:=hT.rg.1
     omega
    have ht0:=hp2 _ (gmem [] tx 0 (by omega))
    have ht1:=hp2 _ (gmem [] tx 1 (by omega))
    have hbm:=beg_mx (hs:=hs) (nd:=nd) (wr:=wr) (sz:=sz) (st:=st) (ph:=ph) (me:=me) (sh:=(tx.getD 0 [])) (nz:=(tx.getD 1 [])) (by omega) ht1
    refine⟨⟨om ((0:Int)≤0),om (0<(2:Int)),by first|assumption|rfl|simp⟩,⟨om ((0:Int)≤1),om (1<(2:Int)),by first|assumption|rfl|simp⟩,rfl,rfl,rfl,rfl,rfl,rfl,⟨om (hs.length≤1000),hnd,os ((tx.getD 0 []).length≤1048576),os ((tx.getD 1 []).length≤1048576)⟩,w4',⟨om ((0:Int)≤0),om (0<(2:Int)),by first|assumption|rfl|simp⟩,⟨om ((0:Int)≤1),om (1<(2:Int)),by first|assumption|rfl|simp⟩,rfl,rfl,rfl,rfl,rfl,rfl,⟨om (hs.length≤1000),hnd,os ((tx.getD 0 []).length≤1048576),os ((tx.getD 1 []).length≤1048576)⟩,w4',by kernel_rfl,rfl,rfl,rfl,rfl,rfl,om (hs.length≤2000000),rfl,rfl,rfl,rfl,rfl,om (hs.length≤2000000),fun h3=> ?_,cs⟩
    refine⟨fun h4=> ?_,cs⟩
    refine⟨fun h5=> ?_,cs⟩
    refine⟨fun h6=> ?_,cs⟩
    refine⟨cs,fun h7=> ?_⟩
    refine⟨fun h8=> ?_,cs⟩
    refine⟨fun h9=> ?_,cs⟩
    refine⟨fun h10=> ?_,cs⟩
    refine⟨fun h11=> ?_,cs⟩
    refine⟨⟨hbm.m,hbm.m,hbm.ms,hbm.ms⟩,fun h12=> ?_,cs⟩
    refine⟨cs,fun h13=> ?_⟩
    refine⟨fun h14=> ?_,cs⟩
    refine⟨fun h15=> ?_,cs⟩
    refine⟨fun h16=> ?_,cs⟩
    refine⟨fun h17=> ?_,cs⟩
    refine⟨rfl,rfl,⟨hbm.r,hbm.r,hbm.v,hbm.v,hbm.rs,hbm.rs,hbm.vs,hbm.vs⟩,fun h18=> ?_,cs⟩
    refine⟨cs,fun h19=> ?_⟩
    refine⟨cn (¬((begH hs nd wr sz st ph me (tx.getD 0 []) (tx.getD 1 []))=(begH hs nd wr sz st ph me (tx.getD 0 []) (tx.getD 1 []))∧(begS hs nd wr sz st ph me (tx.getD 0 []) (tx.getD 1 []))=(begS hs nd wr sz st ph me (tx.getD 0 []) (tx.getD 1 []))∧(begR hs nd wr sz st ph me (tx.getD 0 []) (tx.getD 1 []))=(begR hs nd wr sz st ph me (tx.getD 0 []) (tx.getD 1 []))∧(begV hs nd wr sz st ph me (tx.getD 0 []) (tx.getD 1 []))=(begV hs nd wr sz st ph me (tx.getD 0 []) (tx.getD 1 [])))),fun h20=> ?_⟩
    refine yn ((begE hs nd wr sz st ph me (tx.getD 0 []) (tx.getD 1 []))≠0) (fun h21=> ?_) fun h21=> ?_
    ·refine⟨trivial,?_⟩
     exact d4'
    ·have hb0:=nw h21
     obtain⟨b1,b2,b3,b4⟩:=beg_mkE hb0
     have h77:=(hfw.2.resolve_right (fun g=>g b1)).1
     have hT:=tk0 b1
     have hl12:=hT.l12
     have hsb:=hT.hs12
     obtain⟨me0,me1⟩:=hsb me b2
     obtain⟨⟨n1,n2⟩,_⟩:=hT.rg.1
     have hnd:=hnd b1
     obtain⟨e1,e2,_⟩:=beg_ok hb0
     have hck:hs.length*hs.length≤1048576:=Nat.le_trans (Nat.mul_le_mul (show hs.length≤12 by omega) (show hs.length≤12 by omega)) (by omega)
     refine⟨w4',5, [(4,.k),(5,.k),(11,.c [(2,(.sl .str)),(3,(.sl (.sl .str)))]),(15,.k),(86,.k),(87,.k),(88,.k)],fun nM vs H=>∃(k:Nat) (R:List (List (List UInt8))) (W:List (List (List (List UInt8)))),k≤l.length∧SOk hs nd sz R W∧nM=l.length-k∧vs= [.sl false tPo ps,.ptr 0 1 0 0,.ptr 2 1 0 0,.ptr 4 1 0 0,.sl false (.cons tMl (.cons (.int .i64) .nil)) l,.int .i64 (l.length:Int),.int .i64 (k:Int)]∧H= [.cells [.sl false (.int .i64) hs,.int .i64 nd,.int .i64 wr,.int .i64 sz,.int .i64 st,.int .i64 ph],.row true .str tx,.cells [.int .i64 me,.str (tx.getD 0 []),.sl false (.sl .str) R,.sl false (.sl (.sl .str)) W],.cells [.int .i64 (begH hs nd wr sz st ph me (tx.getD 0 []) (tx.getD 1 [])),.str (begS hs nd wr sz st ph me (tx.getD 0 []) (tx.getD 1 [])),.sl true (.sl .str) (begR hs nd wr sz st ph me (tx.getD 0 []) (tx.getD 1 [])),.sl true (.sl (.sl .str)) (begV hs nd wr sz st ph me (tx.getD 0 []) (tx.getD 1 [])),.sl true tMl (begM hs nd wr sz st ph me (tx.getD 0 []) (tx.getD 1 [])),.int .i64 (begE hs nd wr sz st ph me (tx.getD 0 []) (tx.getD 1 []))],.cells [.int .i64 me,.str (tx.getD 0 []),.sl true (.sl .str) R,.sl true (.sl (.sl .str)) W]],⟨rfl,l.length,0,begR hs nd wr sz st ph me (tx.getD 0 []) (tx.getD 1 []),begV hs nd wr sz st ph me (tx.getD 0 []) (tx.getD 1 []),by omega,SOk.beg hb0,by omega,rfl,cg2 (fun(a:Int) b=>([cTk hs nd wr sz st ph,.row true .str tx,cSt a b (begR hs nd wr sz st ph me (tx.getD 0 []) (tx.getD 1 [])) (begV hs nd wr sz st ph me (tx.getD 0 []) (tx.getD 1 [])),.cells [.int .i64 (begH hs nd wr sz st ph me (tx.getD 0 []) (tx.getD 1 [])),.str (begS hs nd wr sz st ph me (tx.getD 0 []) (tx.getD 1 [])),.sl true (.sl .str) (begR hs nd wr sz st ph me (tx.getD 0 []) (tx.getD 1 [])),.sl true (.sl (.sl .str)) (begV hs nd wr sz st ph me (tx.getD 0 []) (tx.getD 1 [])),.sl true tMl (begM hs nd wr sz st ph me (tx.getD 0 []) (tx.getD 1 [])),.int .i64 (begE hs nd wr sz st ph me (tx.getD 0 []) (tx.getD 1 []))],.cells [.int .i64 a,.str b,.sl true (.sl .str) (begR hs nd wr sz st ph me (tx.getD 0 []) (tx.getD 1 [])),.sl true (.sl (.sl .str)) (begV hs nd wr sz st ph me (tx.getD 0 []) (tx.getD 1 []))]]:List Blk)) e1 e2⟩,?_⟩
     rintro nM vs H ⟨k,R,W,hc1_0,hc1_1,rfl,rfl,rfl⟩
     refine yn ((k:Int)<(l.length:Int)) (fun h22=> ?_) fun h22=> ?_
     ·have hkl:k<l.length:=by omega
      have hlk:=hp4 _ (gmem ((0,0,0,0, [],()),(0,())) l k hkl)
      refine⟨ix k l.length,w4',rfl,rfl,rfl,rfl,rfl,rfl,rfl,rfl,rfl,rfl,rfl,⟨b1,hc1_1.rl,hc1_1.vl,hc1_1.vv,hc1_1.mxR (by omega),os ((((((((l.getD k ((0,0,0,0, [],()),(0,()))).1).2).2).2).2).1).length≤1048576)⟩,w4',rfl,rfl,rfl,rfl,rfl,rfl,rfl,rfl,rfl,rfl,rfl,⟨b1,hc1_1.rl,hc1_1.vl,om (hs.length≤7),hc1_1.vv,hc1_1.mxR (by omega),os ((((((((l.getD k ((0,0,0,0, [],()),(0,()))).1).2).2).2).2).1).length≤1048576),hc1_1.mxV⟩,w4',rfl,rfl,⟨Nat.le_trans (Nat.le_of_eq hc1_1.rcv.rl) (by omega),Nat.le_trans (Nat.le_of_eq hc1_1.rcv.rl) (by omega),Nat.le_trans (Nat.le_of_eq hc1_1.rcv.vl) (by omega),Nat.le_trans (Nat.le_of_eq hc1_1.rcv.vl) (by omega),hc1_1.rcv.mxR (by omega),hc1_1.rcv.mxR (by omega),hc1_1.rcv.mxW (by omega),hc1_1.rcv.mxW (by omega)⟩,cn (¬(me=me∧(tx.getD 0 [])=(tx.getD 0 [])∧(rcvR hs nd sz st ph me R (((l.getD k ((0,0,0,0, [],()),(0,()))).1).1) ((((l.getD k ((0,0,0,0, [],()),(0,()))).1).2).1) (((((l.getD k ((0,0,0,0, [],()),(0,()))).1).2).2).1) ((((((l.getD k ((0,0,0,0, [],()),(0,()))).1).2).2).2).1) (((((((l.getD k ((0,0,0,0, [],()),(0,()))).1).2).2).2).2).1) (((l.getD k ((0,0,0,0, [],()),(0,()))).2).1))=(rcvR hs nd sz st ph me R (((l.getD k ((0,0,0,0, [],()),(0,()))).1).1) ((((l.getD k ((0,0,0,0, [],()),(0,()))).1).2).1) (((((l.getD k ((0,0,0,0, [],()),(0,()))).1).2).2).1) ((((((l.getD k ((0,0,0,0, [],()),(0,()))).1).2).2).2).1) (((((((l.getD k ((0,0,0,0, [],()),(0,()))).1).2).2).2).2).1) (((l.getD k ((0,0,0,0, [],()),(0,()))).2).1))∧(rcvV hs sz st ph me W (((l.getD k ((0,0,0,0, [],()),(0,()))).1).1) ((((l.getD k ((0,0,0,0, [],()),(0,()))).1).2).1) (((((l.getD k ((0,0,0,0, [],()),(0,()))).1).2).2).1) ((((((l.getD k ((0,0,0,0, [],()),(0,()))).1).2).2).2).1) (((((((l.getD k ((0,0,0,0, [],()),(0,()))).1).2).2).2).2).1) (((l.getD k ((0,0,0,0, [],()),(0,()))).2).1))=(rcvV hs sz st ph me W (((l.getD k ((0,0,0,0, [],()),(0,()))).1).1) ((((l.getD k ((0,0,0,0, [],()),(0,()))).1).2).1) (((((l.getD k ((0,0,0,0, [],()),(0,()))).1).2).2).1) ((((((l.getD k ((0,0,0,0, [],()),(0,()))).1).2).2).2).1) (((((((l.getD k ((0,0,0,0, [],()),(0,()))).1).2).2).2).2).1) (((l.getD k ((0,0,0,0, [],()),(0,()))).2).1)))),fun h23=> ?_⟩
      refine⟨r64 (k+1),?_⟩
      exact⟨rfl,l.length-(k+1),by omega,k+1,_,_,by omega,hc1_1.rcv,rfl,rfl,rfl⟩
     ·have hpl:(pstL hs me R W).length=hs.length:=by rw [pstL,List.length_map,List.length_range]
      refine⟨by kernel_rfl,rfl,rfl,rfl,rfl,rfl,rfl,⟨om (hs.length≤1000),hc1_1.rl,hc1_1.vl,hc1_1.vv,hc1_1.mxR (by omega),hsb,om (0≤me),om (me<12)⟩,rfl,rfl,rfl,rfl,rfl,rfl,⟨om (hs.length≤12),hT.ho,hc1_1.rl,hc1_1.vl,hc1_1.vv,hc1_1.mxR (by omega),hsb,b2⟩,w4',w4',by kernel_rfl,fun h24=> ?_,cs⟩
      refine⟨fun h25=> ?_,cs⟩
      refine⟨fun h26=> ?_,cs⟩
      refine⟨fun h27=> ?_,cs⟩
      refine⟨fun h28=> ?_,cs⟩
      refine⟨fun h29=> ?_,cs⟩
      refine⟨fun h30=> ?_,cs⟩
      refine⟨cs,fun h31=> ?_⟩
      refine⟨fun h32=> ?_,cs⟩
      refine⟨fun h33=> ?_,cs⟩
      refine⟨fun h34=> ?_,cs⟩
      refine⟨rfl,rfl,rfl,rfl,rfl,rfl,⟨om (hs.length≤1000),hc1_1.rl,hc1_1.mxR (by omega)⟩,fun h35=> ?_,cs⟩
      refine⟨fun h36=> ?_,cs⟩
      refine⟨fun h37=> ?_,cs⟩
      refine⟨rfl,rfl,rfl,rfl,rfl,rfl,⟨om (hs.length≤1000),hc1_1.rl,hc1_1.mxR (by omega)⟩,fun h38=> ?_,cs⟩
      refine⟨⟨Nat.le_trans (cmpK_len ..) hck,Nat.le_trans (cmpK_len ..) hck,cmpK_mx hs me R _,cmpK_mx hs me R _⟩,fun h39=> ?_,cs⟩
      refine⟨cs,fun h40=> ?_⟩
      refine⟨cs,fun h41=> ?_⟩
      refine⟨9, [(4,.k),(5,.k),(11,.k),(15,.k),(18,.k),(19,.k),(143,.k),(144,.k)],fun nM vs H=>∃(j:Nat),j≤(pstL hs me R W).length∧nM=(pstL hs me R W).length-j∧vs= [.sl false tPo ps,.p 0,.p 2,.p 4,.p 5,.p 6,.i (((pstL hs me R W).length:Nat):Int),.i j]∧H= [cTk hs nd wr sz st ph,.r .str tx,.cells [.i me,.str (tx.getD 0 []),.sl false (.sl .str) R,.sl false (.sl (.sl .str)) W],.cells [.i (begH hs nd wr sz st ph me (tx.getD 0 []) (tx.getD 1 [])),.str (begS hs nd wr sz st ph me (tx.getD 0 []) (tx.getD 1 [])),.sl true (.sl .str) (begR hs nd wr sz st ph me (tx.getD 0 []) (tx.getD 1 [])),.sl true (.sl (.sl .str)) (begV hs nd wr sz st ph me (tx.getD 0 []) (tx.getD 1 [])),.sl true tMl (begM hs nd wr sz st ph me (tx.getD 0 []) (tx.getD 1 [])),.i (begE hs nd wr sz st ph me (tx.getD 0 []) (tx.getD 1 []))],.cells [.i me,.str (tx.getD 0 []),.sl true (.sl .str) R,.sl true (.sl (.sl .str)) W],.cells [.i me,.sl true (.int .i64) (pstL hs me R W)],.cells [.i me,.sl true (.int .i64) (pstL hs me R W)],.r tMl (cmpK hs me R hs.length),.r tMl (cmpK hs me R hs.length)],⟨rfl,(pstL hs me R W).length,0,by omega,by omega,rfl,rfl⟩,?_⟩
      rintro nM vs H ⟨j,hc2_0,rfl,rfl,rfl⟩
      refine yn ((j:Int)<(((pstL hs me R W).length:Nat):Int)) (fun h42=> ?_) fun h42=> ?_
      ·refine⟨by kernel_rfl,ix j (pstL hs me R W).length,ix j (pstL hs me R W).length,cs,fun h43=> ?_⟩
       refine⟨r64 (j+1),?_⟩
       exact⟨rfl,(pstL hs me R W).length-(j+1),by omega,j+1,by omega,rfl,rfl,rfl⟩
      ·have hfs:=fin_same ps hc1_1 b1 b2 b4
       refine⟨rfl,rfl,rfl,rfl,rfl,rfl,⟨om (hs.length≤2000000),om (ps.length≤20),hp6,hc1_1.rl,hc1_1.vl,hc1_1.vv,hc1_1.szd,hc1_1.ro,om (0≤me),om (me<12),om (nd≤7)⟩,w4',rfl,rfl,rfl,rfl,rfl,rfl,⟨om (hs.length≤2000000),om (ps.length≤20),hp6,hc1_1.rl,hc1_1.vl,hc1_1.vv,hc1_1.szd,hc1_1.ro,om (0≤me),om (me<12),om (nd≤7)⟩,w4',trivial,fun h44=> ?_,cp (True)⟩
       refine yn ((fnH hs nd wr sz st ph me (tx.getD 0 []) R W ps)=(rfH hs nd wr sz st ph me (tx.getD 0 []) R W ps)∧((fnS hs nd wr sz st ph me (tx.getD 0 []) R W ps)=(rfS hs nd wr sz st ph me (tx.getD 0 []) R W ps)∧True)) (fun h45=> ?_) fun h45=> ?_
       ·exact⟨rfl,rfl,congrArg V.b (propext ⟨fun _=>trivial,fun _=>hfs.1⟩),rfl⟩
       ·exact absurd ⟨hfs.2.1,hfs.2.2,trivial⟩ h45
  ·refine⟨trivial,?_⟩
   exact d4'
 ·refine⟨trivial,?_⟩
  exact d4'
theorem wt_len {t:Ty} (h1:∀x,1≤wt t x) (xs:List t.D):xs.length+1≤wt (.sl t) xs:=by
 have e:wt (.sl t) xs=(xs.map (wt t)).sum+1:=rfl
 rw [e]
 clear e
 induction xs with
 |nil=>simp
 |cons x xs ih=>have:=h1 x;rw [List.map_cons,List.sum_cons,List.length_cons];omega
theorem wt_mem {t:Ty} {xs:List t.D} {x:t.D} (h:x∈xs):wt t x+1≤wt (.sl t) xs:=by
 have e:wt (.sl t) xs=(xs.map (wt t)).sum+1:=rfl
 rw [e]
 clear e
 induction xs with
 |nil=>cases h
 |cons y ys ih=>
  rw [List.map_cons,List.sum_cons]
  rcases List.mem_cons.1 h with rfl|h
  ·omega
  ·have:=ih h;omega
theorem wt_is (xs:List Int):xs.length+1≤wt (.sl (.int .i64)) xs:=wt_len (t:= .int .i64) (fun _=>Nat.le_refl 1) xs
theorem wt_post (p:Int×(List Int×Unit)):wt (.cons (.int .i64) (.cons (.sl (.int .i64)) .nil)) p=1+(wt (.sl (.int .i64)) p.2.1+0):=rfl
theorem wt_posts (l:List (Int×(List Int×Unit))):l.length+1≤wt (.sl (.cons (.int .i64) (.cons (.sl (.int .i64)) .nil))) l∧∀p∈l,p.2.1.length≤wt (.sl (.cons (.int .i64) (.cons (.sl (.int .i64)) .nil))) l:=by
 refine⟨wt_len (t:= .cons (.int .i64) (.cons (.sl (.int .i64)) .nil)) (fun x=>by rw [wt_post];omega) l,fun p hp=> ?_⟩
 have:=wt_mem (t:= .cons (.int .i64) (.cons (.sl (.int .i64)) .nil)) hp
 rw [wt_post] at this
 have:=wt_is p.2.1
 omega
theorem wt_task (x:List Int×(Int×(Int×(Int×(Int×(Int×Unit)))))):wt (.cons (.sl (.int .i64)) (.cons (.int .i64) (.cons (.int .i64) (.cons (.int .i64) (.cons (.int .i64) (.cons (.int .i64) .nil)))))) x=wt (.sl (.int .i64)) x.1+(1+(1+(1+(1+(1+0))))):=rfl
theorem wt_arr {n:Nat} {xs:List (List UInt8)} {x:List UInt8} (h:x∈xs):x.length+1≤wt (.arr n .str) xs:=by
 have e:wt (.arr n .str) xs=(xs.map (wt .str)).sum:=rfl
 rw [e]
 clear e
 induction xs with
 |nil=>cases h
 |cons y ys ih=>
  rw [List.map_cons,List.sum_cons]
  rcases List.mem_cons.1 h with rfl|h
  ·exact Nat.le_add_right _ _
  ·have:=ih h;omega
theorem wt_sent (p:(Int×(Int×(Int×(Int×(List (List UInt8)×Unit)))))×(Int×Unit)):wt (.cons (.cons (.int .i64) (.cons (.int .i64) (.cons (.int .i64) (.cons (.int .i64) (.cons (.sl .str) .nil))))) (.cons (.int .i64) .nil)) p=(1+(1+(1+(1+(wt (.sl .str) p.1.2.2.2.2.1+0)))))+(1+0):=rfl
theorem wt_sents (l:List ((Int×(Int×(Int×(Int×(List (List UInt8)×Unit)))))×(Int×Unit))):l.length+1≤wt (.sl (.cons (.cons (.int .i64) (.cons (.int .i64) (.cons (.int .i64) (.cons (.int .i64) (.cons (.sl .str) .nil))))) (.cons (.int .i64) .nil))) l∧∀p∈l,p.1.2.2.2.2.1.length≤wt (.sl (.cons (.cons (.int .i64) (.cons (.int .i64) (.cons (.int .i64) (.cons (.int .i64) (.cons (.sl .str) .nil))))) (.cons (.int .i64) .nil))) l:=by
 refine⟨wt_len (t:= .cons (.cons (.int .i64) (.cons (.int .i64) (.cons (.int .i64) (.cons (.int .i64) (.cons (.sl .str) .nil))))) (.cons (.int .i64) .nil)) (fun x=>by rw [wt_sent];omega) l,fun p hp=> ?_⟩
 have h:=wt_mem (t:= .cons (.cons (.int .i64) (.cons (.int .i64) (.cons (.int .i64) (.cons (.int .i64) (.cons (.sl .str) .nil))))) (.cons (.int .i64) .nil)) hp
 rw [wt_sent] at h
 have h2:=wt_len (t:= .str) (fun x=>(om (1≤List.length x+1))) p.1.2.2.2.2.1
 omega
end Go.Proofs.YtlmegkgkipjgbaaDoor.S33c
namespace Go.Proofs.YtlmegkgkipjgbaaDoor.Cd
set_option maxHeartbeats 20000000
open Go Go.Proofs.YtlmegkgkipjgbaaDoor.Vc Go.Proofs Go.Proofs.YtlmegkgkipjgbaaDoor.S33 Go.Proofs.YtlmegkgkipjgbaaDoor.S33c Go.ChangeShapes Go.WideShapes Go.ChangeAt Go.RowKit
set_option maxRecDepth 100000
set_option linter.unusedVariables false
section
theorem bulkAll {H:Type}:∀l:List (DataW H),Rows.uptoBulkAll l=(l.map Rows.uptoBulk).sum
 |[]=>rfl
 |d::l=>by rw [Rows.uptoBulkAll,bulkAll l];rfl
theorem bulk {H:Type}:Bulk (H:=H) Rows.uptoBulk where
 one d:=by cases d with
  |lit l=>cases l<;>simp [Rows.uptoBulk]
  |_=>simp [Rows.uptoBulk]
 str b:=by simp [Rows.uptoBulk]
 sl es sp:=by rw [Rows.uptoBulk,bulkAll,bulkAll];omega
 agg ps:=by rw [Rows.uptoBulk,bulkAll];omega
theorem laidOut:laidOutB Tryd.prog=true:=by kernel_rfl
theorem own:ownKnob Tryd.prog.godebug=none:=by kernel_rfl

section
variable {H:Type} {enc:TypeId×Value→H} {P:Program}
theorem post_same {f:Func} {s:ChangeSpec} {apart fresh handsOn again:Bool} {W W':World} {args:Array Value} {v:Value} {ds gs:List (DataW H)} {before pa pv:List MemPlace}
  (hW:DataW.Whole enc P f.params.toList s.vars apart W args.toList ds gs before)
  (hres:∀(b:Nat) (sp:Nat→Bool) (hd:Bool),DataW.TrodAll enc P W' b sp hd f.resultTypes.toList (v.resultList f.resultTypes.size) (s.fn H (ds++gs)).results [])
  (hargs:∀sp:Nat→Bool,(∀p∈before,sp p.block=true)→DataW.TrodAll enc P W' 0 sp true f.params.toList args.toList (s.fn H (ds++gs)).args pa)
  (hvars:∀sp:Nat→Bool,(∀p∈before,sp p.block=true)→DataW.TrodVars enc P W' sp s.vars (s.fn H (ds++gs)).vars pv)
  (hps:before=pa++pv) (hb:Below W.heap.size W W')
  (hok:∀(j:Nat) (t:TypeId) (r:Value),f.resultTypes[j]? =some t→(v.resultList f.resultTypes.size)[j]? =some r→Value.okWide P W' .any 0 t r):
  s.post enc P f apart fresh handsOn again W args v W':=by
 have hlt:∀p∈before,p.block<W.heap.size:=fun p hp=>by simpa using hW.lt p hp
 have hold:∀p∈before,(fun b=>decide (b<W.heap.size)) p.block=true:=fun p hp=>by simpa using hW.lt p hp
 refine⟨ds,gs,before, [],pa,pv,hW,hres _ _ _,hargs _ hold,hvars _ hold,World.keptBut_mono (fun p hp=>⟨hp,?_⟩) (hb.frame (· ∈before)),fun _=> ?_⟩
 ·rw [hps,List.mem_append] at hp
  exact Or.inr hp
 ·obtain⟨_,_,_,_,_,hz,hn⟩:=hW
  refine⟨hok,_,_,([]++pa)++pv,⟨[]++pa,pv,trodAll_append (hargs _ (fun _ _=>rfl)) (hres _ _ _),hvars _ (fun _ _=>rfl),rfl,?_,?_⟩,?_⟩
  ·intro b off hp
   have hp':MemPlace.cell b off∈before:=by rw [hps];simpa using hp
   rw [hb.frozen (hlt _ hp')]
   exact hz b off hp'
  ·intro ha
   have:=hn ha
   rw [hps] at this
   simpa using this
  ·intro p hp _
   rw [hps]
   simpa using hp
end
end
end Go.Proofs.YtlmegkgkipjgbaaDoor.Cd

/- Texts of this claim. -/
import Derived.Test.YtogipicegdbhdaaDoorS5
set_option linter.unusedVariables false
set_option linter.unusedSimpArgs false
namespace Go.Proofs.YtogipicegdbhdaaDoor.S72d
set_option maxHeartbeats 20000000
open Go Go.Proofs.YtogipicegdbhdaaDoor.Vc Go.Proofs
set_option maxRecDepth 100000
set_option linter.unusedVariables false
open Go.Proofs.YtogipicegdbhdaaDoor.S72
open Go.Proofs.YtogipicegdbhdaaDoor.S72c (vJ zE fE)
theorem Ua {set:Int} {vk:List (List (List UInt8))} {l:List (Int×Int)} {n:Nat} {X:List UInt8} (e:X=kq set vk (l.take n)) (h:n<l.length) (hi:zR set vk (l.getD n (0,0))=true):X++ [UInt8.ofNat (((l.getD n (0,0)).2+1)%256).toNat]=kq set vk (l.take (n+1)):=by rw [Oq h hi,e]
theorem Uc {set:Int} {vk:List (List (List UInt8))} {l:List (Int×Int)} {n:Nat} {U:List (List UInt8)} (e:U=kr set vk (l.take n)) (h:n<l.length) (hi:zR set vk (l.getD n (0,0))=true):U++ [(vk.getD (l.getD n (0,0)).1.toNat []).getD 0 []]=kr set vk (l.take (n+1)):=by rw [Ou h hi,e]
theorem ixp {P:List UInt8} {m:Nat} {a:Int} (h:(decide (0≤a)&&decide (a<m))=true:=by kernel_rfl):0≤a∧a<((P++List.replicate m (0:UInt8)).length:Int):=by
 rw [Bool.and_eq_true,decide_eq_true_eq,decide_eq_true_eq] at h
 rw [List.length_append,List.length_replicate]
 omega
theorem l9r {X:List UInt8} {U:List (List UInt8)} {m w:Int} {a k:Nat} (h:k≤4096:=by omega):(Jx X U m w a k).length+1≤1000000000:=by rw [Bv];omega
theorem Jz {wr sz m:Int} {X:List UInt8} {U:List (List UInt8)} (h:¬zQ wr sz m X U):yA wr sz m X U= []:=if_neg h
theorem Jy {wr sz m:Int} {X:List UInt8} {U:List (List UInt8)} (h:¬zQ wr sz m X U):zQ wr sz m X U=(false=true):=propext ⟨fun g=>absurd g h,fun g=>Bool.noConfusion g⟩
theorem Ox {wr sz m:Int} {X:List UInt8} {U:List (List UInt8)} (h:zQ wr sz m X U):yA wr sz m X U=(List.range m.toNat).map fun a=>Jx X U m (Ot wr m X) a sz.toNat:=if_pos h
theorem Ow {wr sz m:Int} {X:List UInt8} {U:List (List UInt8)} (h:zQ wr sz m X U):zQ wr sz m X U=(true=true):=propext ⟨fun _=>rfl,fun _=>h⟩
def dB (hs:List Int) (nd wr sz st ph me:Int) (sh:List UInt8) (rows:List (List (List UInt8))) (vals:List (List (List (List UInt8)))) (pl set:Int) (X:List UInt8) (U:List (List UInt8)) (w:Int) (m k:Nat):List Blk:=
 [Mm hs nd wr sz st ph,Yy me sh rows vals,.cells [.i pl],.cells [.i set],.cells [.own .u8 8],.cells [.own .str 9],.dead,.dead,.r .u8 X,.r .str U,.cells ((List.range m).map fun a=> .own .u8 (11+a))]++(List.range m).map fun a=> .r .u8 (Jx X U m w a k)
theorem Oy {hs:List Int} {nd wr sz st ph me:Int} {sh:List UInt8} {rows:List (List (List UInt8))} {vals:List (List (List (List UInt8)))} {pl set:Int} {X:List UInt8} {U:List (List UInt8)} {w:Int} {m k:Nat} {P:List UInt8} (h:Ud X U m w k=P):dB hs nd wr sz st ph me sh rows vals pl set X U w m (k+1)=
  [Mm hs nd wr sz st ph,Yy me sh rows vals,.cells [.i pl],.cells [.i set],.cells [.own .u8 8],.cells [.own .str 9],.dead,.dead,.r .u8 X,.r .str U,.cells ((List.range m).map fun a=> .own .u8 (11+a))]++(List.range m).map fun a=> .r .u8 (Jx X U m w a k++ [P.getD a 0]):=by
 unfold dB
 simp only [Jw,h]
theorem aCL {m:Nat} [Sz m] (hm:1≤m∧m≤4) (hs:List Int) (nd wr sz st ph me:Int) (sh:List UInt8) (rows:List (List (List UInt8))) (vals:List (List (List (List UInt8)))) (pl set:Int) (hnd:nd=m+1) (hp0:hs.length≤12) (hp1:(∀x∈hs,0≤x∧x<12)) (hp2:vals.length=hs.length) (hp3:(∀x∈vals,x.length=hs.length)) (hp4:0≤wr) (hp5:wr≤12) (hp6:1≤sz) (hp7:sz≤4096) (hp8:0≤pl) (hp9:pl<(hs.length:Int)) (hp10:0≤set) (hp11:set<4096) (hp12:(∀v∈vals,∀x∈v,0<x.length→((x.getD 0 []).length:Int)=sz)):bL (En Pz tys G6 gI [1000000,1000001]) Tryd.f54 [.d .str,.k] [La hs nd wr sz st ph,V8 me sh rows vals,.int .i64 pl,.int .i64 set] (.tup [.sl true .str (yA wr sz m (kq set (vals.getD pl.toNat []) (bA me 0 hs)) (kr set (vals.getD pl.toNat []) (bA me 0 hs))),.b (zQ wr sz m (kq set (vals.getD pl.toNat []) (bA me 0 hs)) (kr set (vals.getD pl.toNat []) (bA me 0 hs)))]) []:=by
 have hol:=mH me hs 0
 have hkv:=hp3 _ (bc [] vals pl.toNat (by omega))
 have hXl:=um set (vals.getD pl.toNat []) (bA me 0 hs)
 have hVl:=un set (vals.getD pl.toNat []) (bA me 0 hs)
 have hVs:=Ub (l:=(bA me 0 hs)) (set:=set) (hp12 _ (bc [] vals pl.toNat (by omega)))
 have hT:(bA me 0 hs).take (bA me 0 hs).length=(bA me 0 hs):=List.take_length
 subst hnd
 obtain rfl|rfl|rfl|rfl:m=1∨m=2∨m=3∨m=4:=by omega
 all_goals
  have hS:=mSq
  refine⟨Qh,rfl,rfl,rfl,rfl,rfl,rfl,trivial,rfl,rfl,rfl,rfl,rfl,rfl,rfl,⟨om (hs.length≤2000000),fun _ _=>rfl⟩,10, [(4,.k),(5,.k),(6,.k),(7,.k),(10,.k),(11,.c [(0,.u8)]),(12,.c [(0,.str)])],fun n vs H=>∃(X:List UInt8) (U:List (List UInt8)),(n≤(bA me 0 hs).length∧X=kq set (vals.getD pl.toNat []) ((bA me 0 hs).take n)∧U=kr set (vals.getD pl.toNat []) ((bA me 0 hs).take n))∧vs= [.p 0,.p 1,.p 2,.p 3,.i mS,.p 4,.p 5]∧H= [Mm hs (mS+1) wr sz st ph,Yy me sh rows vals,.cells [.i pl],.cells [.i set],.cells [.own .u8 8],.cells [.own .str 9],.dead,.dead,.r .u8 X,.r .str U],⟨rfl, [], [],⟨Nat.zero_le _,rfl,rfl⟩,rfl,rfl⟩,?_,?_⟩
  ·rintro n vs H ⟨X,U,⟨hc1_0,hX,hU⟩,rfl,rfl⟩ hn1
   replace hn1:n<(bA me 0 hs).length:=hn1
   obtain⟨i,hi,e1,e2,e3⟩:=fQ hs 0 (bc (0,0) (bA me 0 hs) n hn1)
   obtain⟨g0,g1⟩:=hp1 _ (bc 0 hs i hi)
   rw [←e2] at g0 g1
   obtain⟨q0,q1⟩:=wK g0 g1
   have hxl:=um set (vals.getD pl.toNat []) ((bA me 0 hs).take n)
   have hvl:=un set (vals.getD pl.toNat []) ((bA me 0 hs).take n)
   rw [List.length_take,←hX] at hxl
   rw [←hX,←hU] at hvl
   refine⟨ix pl vals.length,ix ((bA me 0 hs).getD n (0,0)).1 (vals.getD pl.toNat []).length,⟨om (0≤((bA me 0 hs).getD n (0,0)).2),om (((bA me 0 hs).getD n (0,0)).2≤64)⟩,.inr ⟨rfl,?_⟩⟩
   refine yn (set/2^((bA me 0 hs).getD n (0,0)).2.toNat%2=1) (fun h0=> ?_) fun h0=> ?_
   ·refine yn (0<(((vals.getD pl.toNat []).getD ((bA me 0 hs).getD n (0,0)).1.toNat []).length:Int)) (fun h1=> ?_) fun h1=> ?_
    ·have hy:zR set (vals.getD pl.toNat []) ((bA me 0 hs).getD n (0,0))=true:=decide_eq_true ⟨h0,by omega⟩
     refine⟨by kernel_rfl,aj (((bA me 0 hs).getD n (0,0)).2+1),fN,l9 X.length,ix 0 ((vals.getD pl.toNat []).getD ((bA me 0 hs).getD n (0,0)).1.toNat []).length,fN,l9 U.length,jP,jP,?_⟩
     exact⟨rfl,rfl,_,_,⟨by omega,Ua hX hn1 hy,Uc hU hn1 hy⟩,rfl,rfl⟩
    have hy:¬zR set (vals.getD pl.toNat []) ((bA me 0 hs).getD n (0,0))=true:=fun g=>h1 (by have:=(of_decide_eq_true g).2;omega)
    exact⟨rfl,rfl,_,_,⟨by omega,hX.trans (Bu hn1 hy).1.symm,hU.trans (Bu hn1 hy).2.symm⟩,rfl,rfl⟩
   have hy:¬zR set (vals.getD pl.toNat []) ((bA me 0 hs).getD n (0,0))=true:=fun g=>h0 (of_decide_eq_true g).1
   exact⟨rfl,rfl,_,_,⟨by omega,hX.trans (Bu hn1 hy).1.symm,hU.trans (Bu hn1 hy).2.symm⟩,rfl,rfl⟩
  rintro vs H ⟨X,U,⟨hc1_0,hX,hU⟩,rfl,rfl⟩
  replace hX:X=kq set (vals.getD pl.toNat []) (bA me 0 hs):=hX.trans (congrArg (kq set (vals.getD pl.toNat [])) hT)
  replace hU:U=kr set (vals.getD pl.toNat []) (bA me 0 hs):=hU.trans (congrArg (kr set (vals.getD pl.toNat [])) hT)
  rw [←hX] at hXl hVl
  rw [←hU] at hVl hVs
  refine⟨aj (mS+wr),yn ((X.length:Int)<mS+wr) (fun h2=> ?_) fun h2=> ?_⟩
  ·have hN:¬zQ wr sz mS X U:=fun g=>by have:=g.1;omega
   exact⟨rfl,rfl,by rw [←hX,←hU,Jz hN,Jy hN];rfl,rfl⟩
  refine⟨aj (X.length-mS),aj (X.length-mS-wr),⟨rfl,qd,qd⟩,.inl ?_⟩
  refine⟨11+mS, [(10,.k),(11,.k),(12,.k),(16,.k),(17,.c ((List.range mS).map fun a=>(a,.u8))),(88,.k),(89,.k)],fun nM vs H=>∃(k:Nat) (w:Int),((k:Int)≤sz∧w=Ot wr mS X∧∀j:Nat,j<k→(Mk X U mS w j).2.2=0)∧nM=sz.toNat-k∧vs= [.i mS,.p 4,.p 5,.i w,.own (.sl .u8) 10,.i sz,.i k]∧H=dB hs (mS+1) wr sz st ph me sh rows vals pl set X U w mS k,⟨rfl,sz.toNat,0,_,⟨by omega,rfl,fun j hj=>absurd hj (by omega)⟩,rfl,rfl,rfl⟩,?_⟩
  rintro nM vs H ⟨k,w,⟨hc2_0,hw,hc2_1⟩,rfl,rfl,rfl⟩
  refine yn ((k:Int)<sz) (fun h3=> ?_) fun h3=> ?_
  ·refine⟨⟨rfl,om ((0:Int)≤(X.length:Int)),om ((X.length:Int)≤1000000000)⟩,.inl ?_⟩
   refine⟨12+mS, [(10,.k),(11,.k),(12,.k),(16,.k),(17,.k),(18,.k),(19,.k),(88,.k),(89,.k),(95,.o .str),(96,.k),(97,.k)],fun nM vs H=>∃(i:Nat) (Y:List UInt8),(i≤U.length∧Y=iS (0:UInt8) (fun i=>(U.getD i []).getD k 0) X.length i)∧nM=U.length-i∧vs= [.i mS,.p 4,.p 5,.i w,.own (.sl .u8) 10,.i k,.own .u8 (11+mS),.i sz,.i k,.own .str 9,.i U.length,.i i]∧H=dB hs (mS+1) wr sz st ph me sh rows vals pl set X U w mS k++ [.r .u8 Y],⟨rfl,U.length,0,_,⟨by omega,(rJ ..).symm⟩,by omega,rfl,rfl⟩,?_⟩
   rintro nM vs H ⟨i,Y,⟨hc3_0,hY⟩,rfl,rfl,rfl⟩
   have hyl:Y.length=X.length:=by rw [hY,mW]
   refine yn ((i:Int)<(U.length:Int)) (fun h4=> ?_) fun h4=> ?_
   ·have hvi:=hVs _ (bc [] U i (by omega))
    refine⟨ix i U.length,ix k (U.getD i []).length,ix i Y.length,fN,aj (i+1),?_⟩
    exact⟨rfl,U.length-(i+1),by omega,i+1,_,⟨by omega,by rw [hY];exact uY (f:=fun i=>(U.getD i []).getD k 0) (by omega)⟩,rfl,rfl,rfl⟩
   have hy:Y=E8 U k:=by rw [hY,show i=X.length by omega];exact Oo (by omega)
   have hC:Mk X U mS w k=lX X Y (mS-1) w:=by unfold Mk;rw [hy]
   refine⟨Qh,rfl,rfl,⟨om (X.length≤10000),om (Y.length≤10000),Jt _ _ (by omega) _ _⟩,yn ((lX X Y (mS-1) w).2.2≠0) (fun h5=> ?_) fun h5=> ?_⟩
   ·have hN:¬zQ wr sz mS X U:=fun g=>by have:=g.2 k (by omega);rw [←hw,hC] at this;exact h5 this
    exact⟨rfl,rfl,by rw [←hX,←hU,Jz hN,Jy hN];rfl,rfl⟩
   have hP:Ud X U mS w k=(lX X Y (mS-1) w).1++List.replicate mS 0:=by unfold Ud;rw [hC];rfl
   have hdt:=Jv (ys:=Y) (d:=(mS:Int)-1) (w:=w) (show X.length≤10000 by omega)
   have hall:∀j:Nat,j<k+1→(Mk X U mS w j).2.2=0:=fun j hj=>by
    rcases Nat.lt_or_ge j k with g|g
    ·exact hc2_1 j g
    ·obtain rfl:j=k:=by omega
     rw [hC];exact nw h5
   refine⟨fN,⟨qd,om ((lX X Y (mS-1) w).1.length+mS≤1000000000)⟩,.inr ?_⟩
   refine ya ?_
   repeat refine⟨by kernel_rfl,qi,ixp,fN,l9r,qi,jP,Qh,ye ?_⟩
   refine⟨by kernel_rfl,qi,ixp,fN,l9r,qi,jP,Qh,na ?_⟩
   refine⟨aj (k+1),?_⟩
   exact⟨rfl,sz.toNat-(k+1),by omega,k+1,w,⟨by omega,hw,hall⟩,rfl,rfl,by rw [Oy hP];rfl⟩
  refine .inr ?_
  refine ya ?_
  first|refine⟨qi,lq,Qh,ye ?_⟩|refine⟨qi,lq,Qh,na ?_⟩
  repeat refine⟨qi,fN,lq,Qh,ye ?_⟩
  try refine⟨qi,fN,lq,Qh,nf ?_⟩
  have hO:zQ wr sz mS X U:=⟨by omega,fun j hj=>by rw [←hw];exact hc2_1 j (by omega)⟩
  exact⟨rfl,rfl,by rw [←hX,←hU,Ox hO,Ow hO,←hw,show sz.toNat=k by omega];rfl,rfl⟩
noncomputable def Xo:List V→Option (Prop×V×List Blk)
 |[.agg [.sl false (.int .i64) hs,.int .i64 nd,.int .i64 wr,.int .i64 sz,.int .i64 st,.int .i64 ph],.agg [.int .i64 me,.str sh,.sl false (.sl .str) rows,.sl false (.sl (.sl .str)) vals],.int .i64 pl,.int .i64 set]=>some (hs.length≤12∧(∀x∈hs,0≤x∧x<12)∧vals.length=hs.length∧(∀x∈vals,x.length=hs.length)∧0≤wr∧wr≤12∧1≤sz∧sz≤4096∧0≤pl∧pl<(hs.length:Int)∧0≤set∧set<4096∧(∀v∈vals,∀x∈v,0<x.length→((x.getD 0 []).length:Int)=sz)∧2≤nd∧nd≤5,.tup [.sl true .str (yA wr sz (nd-1) (kq set (vals.getD (pl).toNat []) (bA me 0 hs)) (kr set (vals.getD (pl).toNat []) (bA me 0 hs))),.b (zQ wr sz (nd-1) (kq set (vals.getD (pl).toNat []) (bA me 0 hs)) (kr set (vals.getD (pl).toNat []) (bA me 0 hs)))], [])
 |_=>none
theorem aCM (hs:List Int) (nd wr sz st ph me:Int) (sh:List UInt8) (rows:List (List (List UInt8))) (vals:List (List (List (List UInt8)))) (pl:Int) (set:Int) (hp0:hs.length≤12) (hp1:(∀x∈hs,0≤x∧x<12)) (hp2:vals.length=hs.length) (hp3:(∀x∈vals,x.length=hs.length)) (hp4:0≤wr) (hp5:wr≤12) (hp6:1≤sz) (hp7:sz≤4096) (hp8:0≤pl) (hp9:pl<(hs.length:Int)) (hp10:0≤set) (hp11:set<4096) (hp12:(∀v∈vals,∀x∈v,0<x.length→((x.getD 0 []).length:Int)=sz)) (hp13:2≤nd) (hp14:nd≤5):bL (En Pz tys G6 gI [1000000,1000001]) Tryd.f54 [.d .str,.k] [La hs nd wr sz st ph,V8 me sh rows vals,.int .i64 pl,.int .i64 set] (.tup [.sl true .str (yA wr sz (nd-1) (kq set (vals.getD (pl).toNat []) (bA me 0 hs)) (kr set (vals.getD (pl).toNat []) (bA me 0 hs))),.b (zQ wr sz (nd-1) (kq set (vals.getD (pl).toNat []) (bA me 0 hs)) (kr set (vals.getD (pl).toNat []) (bA me 0 hs)))]) []:=by
 obtain⟨m,hm⟩:∃m:Nat,nd-1=m:=⟨(nd-1).toNat,by omega⟩
 rw [hm]
 exact @aCL m ⟨trivial⟩ (by omega) hs nd wr sz st ph me sh rows vals pl set (by omega) hp0 hp1 hp2 hp3 hp4 hp5 hp6 hp7 hp8 hp9 hp10 hp11 hp12
noncomputable def Vo:List (Nat×bI):=(54,aS [.v F7,.v sK,.v (.int .i64),.v (.int .i64)] Xo)::Pz
theorem aBT:Known Tryd.prog (En Vo tys G6 gI):=Known.frz0<|(aBc.frz [1000000,1000001]).add Tryd.func54 Tryd.call54 [.d .str,.k] fun ds p v bs h hp=>by
 unfold Xo at h
 split at h<;>simp only [Option.some.injEq,Prod.mk.injEq,reduceCtorEq] at h
 obtain⟨rfl,rfl,rfl⟩:=h
 exact aCM _ _ _ _ _ _ _ _ _ _ _ _ hp.1 hp.2.1 hp.2.2.1 hp.2.2.2.1 hp.2.2.2.2.1 hp.2.2.2.2.2.1 hp.2.2.2.2.2.2.1 hp.2.2.2.2.2.2.2.1 hp.2.2.2.2.2.2.2.2.1 hp.2.2.2.2.2.2.2.2.2.1 hp.2.2.2.2.2.2.2.2.2.2.1 hp.2.2.2.2.2.2.2.2.2.2.2.1 hp.2.2.2.2.2.2.2.2.2.2.2.2.1 hp.2.2.2.2.2.2.2.2.2.2.2.2.2.1 hp.2.2.2.2.2.2.2.2.2.2.2.2.2.2
end Go.Proofs.YtogipicegdbhdaaDoor.S72d

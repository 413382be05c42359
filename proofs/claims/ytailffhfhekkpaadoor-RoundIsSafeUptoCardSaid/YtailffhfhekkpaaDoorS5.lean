/- Texts of this claim. -/
import Derived.Test.YtailffhfhekkpaaDoorS4
set_option linter.unusedVariables false
set_option linter.unusedSimpArgs false
namespace Go.Proofs.YtailffhfhekkpaaDoor.S62c
set_option maxHeartbeats 20000000
open Go Go.Proofs.YtailffhfhekkpaaDoor.Vc Go.Proofs
set_option maxRecDepth 100000
set_option linter.unusedVariables false
open Go.Proofs.YtailffhfhekkpaaDoor.S62
theorem Se {set:Int} {vk:List (List (List UInt8))} {l:List (Int×Int)} {n:Nat} {X:List UInt8} (e:X=jV set vk (l.take n)) (h:n<l.length) (hi:rx set vk (l.getD n (0,0))=true):X++ [UInt8.ofNat (((l.getD n (0,0)).2+1)%256).toNat]=jV set vk (l.take (n+1)):=by rw [Ni h hi,e]
theorem Si {set:Int} {vk:List (List (List UInt8))} {l:List (Int×Int)} {n:Nat} {U:List (List UInt8)} (e:U=ja set vk (l.take n)) (h:n<l.length) (hi:rx set vk (l.getD n (0,0))=true):U++ [(vk.getD (l.getD n (0,0)).1.toNat []).getD 0 []]=ja set vk (l.take (n+1)):=by rw [Nj h hi,e]
theorem ixp {P:List UInt8} {m:Nat} {a:Int} (h:(decide (0≤a)&&decide (a<m))=true:=by kernel_rfl):0≤a∧a<((P++List.replicate m (0:UInt8)).length:Int):=by
 rw [Bool.and_eq_true,decide_eq_true_eq,decide_eq_true_eq] at h
 rw [List.length_append,List.length_replicate]
 omega
theorem l9r {X:List UInt8} {U:List (List UInt8)} {m w:Int} {a k:Nat} (h:k≤4096:=by omega):(I8 X U m w a k).length+1≤1000000000:=by rw [Bo];omega
theorem Ja {wr sz m:Int} {X:List UInt8} {U:List (List UInt8)} (h:¬x9 wr sz m X U):yA wr sz m X U= []:=if_neg h
theorem I9 {wr sz m:Int} {X:List UInt8} {U:List (List UInt8)} (h:¬x9 wr sz m X U):x9 wr sz m X U=(false=true):=propext ⟨fun g=>absurd g h,fun g=>Bool.noConfusion g⟩
theorem Nm {wr sz m:Int} {X:List UInt8} {U:List (List UInt8)} (h:x9 wr sz m X U):yA wr sz m X U=(List.range m.toNat).map fun a=>I8 X U m (D7 wr m X) a sz.toNat:=if_pos h
theorem Nl {wr sz m:Int} {X:List UInt8} {U:List (List UInt8)} (h:x9 wr sz m X U):x9 wr sz m X U=(true=true):=propext ⟨fun _=>rfl,fun _=>h⟩
def dB (hs:List Int) (nd wr sz st ph me:Int) (sh:List UInt8) (rows:List (List (List UInt8))) (vals:List (List (List (List UInt8)))) (pl set:Int) (X:List UInt8) (U:List (List UInt8)) (w:Int) (m k:Nat):List Blk:=
 [D9 hs nd wr sz st ph,Jn me sh rows vals,.cells [.i pl],.cells [.i set],.cells [.own .u8 8],.cells [.own .str 9],.dead,.dead,.r .u8 X,.r .str U,.cells ((List.range m).map fun a=> .own .u8 (11+a))]++(List.range m).map fun a=> .r .u8 (I8 X U m w a k)
theorem Nn {hs:List Int} {nd wr sz st ph me:Int} {sh:List UInt8} {rows:List (List (List UInt8))} {vals:List (List (List (List UInt8)))} {pl set:Int} {X:List UInt8} {U:List (List UInt8)} {w:Int} {m k:Nat} {P:List UInt8} (h:Sj X U m w k=P):dB hs nd wr sz st ph me sh rows vals pl set X U w m (k+1)=
  [D9 hs nd wr sz st ph,Jn me sh rows vals,.cells [.i pl],.cells [.i set],.cells [.own .u8 8],.cells [.own .str 9],.dead,.dead,.r .u8 X,.r .str U,.cells ((List.range m).map fun a=> .own .u8 (11+a))]++(List.range m).map fun a=> .r .u8 (I8 X U m w a k++ [P.getD a 0]):=by
 unfold dB
 simp only [I7,h]
theorem aBc {m:Nat} [Sz m] (hm:1≤m∧m≤6) (hs:List Int) (nd wr sz st ph me:Int) (sh:List UInt8) (rows:List (List (List UInt8))) (vals:List (List (List (List UInt8)))) (pl set:Int) (hnd:nd=m+1) (hp0:hs.length≤12) (hp1:(∀x∈hs,0≤x∧x<12)) (hp2:vals.length=hs.length) (hp3:(∀x∈vals,x.length=hs.length)) (hp4:0≤wr) (hp5:wr≤12) (hp6:1≤sz) (hp7:sz≤4096) (hp8:0≤pl) (hp9:pl<(hs.length:Int)) (hp10:0≤set) (hp11:set<4096) (hp12:(∀v∈vals,∀x∈v,0<x.length→((x.getD 0 []).length:Int)=sz)):bI (En Oi tys G6 ct [1000000,1000001]) Tryd.f45 [.d .str,.k] [Lc hs nd wr sz st ph,Pt me sh rows vals,.int .i64 pl,.int .i64 set] (.tup [.sl true .str (yA wr sz m (jV set (vals.getD pl.toNat []) (a5 me 0 hs)) (ja set (vals.getD pl.toNat []) (a5 me 0 hs))),.b (x9 wr sz m (jV set (vals.getD pl.toNat []) (a5 me 0 hs)) (ja set (vals.getD pl.toNat []) (a5 me 0 hs)))]) []:=by
 have hol:=kX me hs 0
 have hkv:=hp3 _ (bE [] vals pl.toNat (by omega))
 have hXl:=pP set (vals.getD pl.toNat []) (a5 me 0 hs)
 have hVl:=pQ set (vals.getD pl.toNat []) (a5 me 0 hs)
 have hVs:=Sg (l:=(a5 me 0 hs)) (set:=set) (hp12 _ (bE [] vals pl.toNat (by omega)))
 have hT:(a5 me 0 hs).take (a5 me 0 hs).length=(a5 me 0 hs):=List.take_length
 subst hnd
 obtain rfl|rfl|rfl|rfl|rfl|rfl:m=1∨m=2∨m=3∨m=4∨m=5∨m=6:=by omega
 all_goals
  have hS:=mSq
  refine⟨O4,rfl,rfl,rfl,rfl,rfl,rfl,trivial,rfl,rfl,rfl,rfl,rfl,rfl,rfl,⟨om (hs.length≤2000000),fun _ _=>rfl⟩,10, [(4,.k),(5,.k),(6,.k),(7,.k),(10,.k),(11,.c [(0,.u8)]),(12,.c [(0,.str)])],fun n vs H=>∃(X:List UInt8) (U:List (List UInt8)),(n≤(a5 me 0 hs).length∧X=jV set (vals.getD pl.toNat []) ((a5 me 0 hs).take n)∧U=ja set (vals.getD pl.toNat []) ((a5 me 0 hs).take n))∧vs= [.p 0,.p 1,.p 2,.p 3,.i mS,.p 4,.p 5]∧H= [D9 hs (mS+1) wr sz st ph,Jn me sh rows vals,.cells [.i pl],.cells [.i set],.cells [.own .u8 8],.cells [.own .str 9],.dead,.dead,.r .u8 X,.r .str U],⟨rfl, [], [],⟨Nat.zero_le _,rfl,rfl⟩,rfl,rfl⟩,?_,?_⟩
  ·rintro n vs H ⟨X,U,⟨hc1_0,hX,hU⟩,rfl,rfl⟩ hn1
   replace hn1:n<(a5 me 0 hs).length:=hn1
   obtain⟨i,hi,e1,e2,e3⟩:=fb hs 0 (bE (0,0) (a5 me 0 hs) n hn1)
   obtain⟨g0,g1⟩:=hp1 _ (bE 0 hs i hi)
   rw [←e2] at g0 g1
   obtain⟨q0,q1⟩:=tc g0 g1
   have hxl:=pP set (vals.getD pl.toNat []) ((a5 me 0 hs).take n)
   have hvl:=pQ set (vals.getD pl.toNat []) ((a5 me 0 hs).take n)
   rw [List.length_take,←hX] at hxl
   rw [←hX,←hU] at hvl
   refine⟨ix pl vals.length,ix ((a5 me 0 hs).getD n (0,0)).1 (vals.getD pl.toNat []).length,⟨om (0≤((a5 me 0 hs).getD n (0,0)).2),om (((a5 me 0 hs).getD n (0,0)).2≤64)⟩,.inr ⟨rfl,?_⟩⟩
   refine yn (set/2^((a5 me 0 hs).getD n (0,0)).2.toNat%2=1) (fun h0=> ?_) fun h0=> ?_
   ·refine yn (0<(((vals.getD pl.toNat []).getD ((a5 me 0 hs).getD n (0,0)).1.toNat []).length:Int)) (fun h1=> ?_) fun h1=> ?_
    ·have hy:rx set (vals.getD pl.toNat []) ((a5 me 0 hs).getD n (0,0))=true:=decide_eq_true ⟨h0,by omega⟩
     refine⟨by kernel_rfl,ap (((a5 me 0 hs).getD n (0,0)).2+1),fY,l9 X.length,ix 0 ((vals.getD pl.toNat []).getD ((a5 me 0 hs).getD n (0,0)).1.toNat []).length,fY,l9 U.length,gY,gY,?_⟩
     exact⟨rfl,rfl,_,_,⟨by omega,Se hX hn1 hy,Si hU hn1 hy⟩,rfl,rfl⟩
    have hy:¬rx set (vals.getD pl.toNat []) ((a5 me 0 hs).getD n (0,0))=true:=fun g=>h1 (by have:=(of_decide_eq_true g).2;omega)
    exact⟨rfl,rfl,_,_,⟨by omega,hX.trans (Bn hn1 hy).1.symm,hU.trans (Bn hn1 hy).2.symm⟩,rfl,rfl⟩
   have hy:¬rx set (vals.getD pl.toNat []) ((a5 me 0 hs).getD n (0,0))=true:=fun g=>h0 (of_decide_eq_true g).1
   exact⟨rfl,rfl,_,_,⟨by omega,hX.trans (Bn hn1 hy).1.symm,hU.trans (Bn hn1 hy).2.symm⟩,rfl,rfl⟩
  rintro vs H ⟨X,U,⟨hc1_0,hX,hU⟩,rfl,rfl⟩
  replace hX:X=jV set (vals.getD pl.toNat []) (a5 me 0 hs):=hX.trans (congrArg (jV set (vals.getD pl.toNat [])) hT)
  replace hU:U=ja set (vals.getD pl.toNat []) (a5 me 0 hs):=hU.trans (congrArg (ja set (vals.getD pl.toNat [])) hT)
  rw [←hX] at hXl hVl
  rw [←hU] at hVl hVs
  refine⟨ap (mS+wr),yn ((X.length:Int)<mS+wr) (fun h2=> ?_) fun h2=> ?_⟩
  ·have hN:¬x9 wr sz mS X U:=fun g=>by have:=g.1;omega
   exact⟨rfl,rfl,by rw [←hX,←hU,Ja hN,I9 hN];rfl,rfl⟩
  refine⟨ap (X.length-mS),ap (X.length-mS-wr),⟨rfl,qd,qd⟩,.inl ?_⟩
  refine⟨11+mS, [(10,.k),(11,.k),(12,.k),(16,.k),(17,.c ((List.range mS).map fun a=>(a,.u8))),(88,.k),(89,.k)],fun nM vs H=>∃(k:Nat) (w:Int),((k:Int)≤sz∧w=D7 wr mS X∧∀j:Nat,j<k→(Jb X U mS w j).2.2=0)∧nM=sz.toNat-k∧vs= [.i mS,.p 4,.p 5,.i w,.own (.sl .u8) 10,.i sz,.i k]∧H=dB hs (mS+1) wr sz st ph me sh rows vals pl set X U w mS k,⟨rfl,sz.toNat,0,_,⟨by omega,rfl,fun j hj=>absurd hj (by omega)⟩,rfl,rfl,rfl⟩,?_⟩
  rintro nM vs H ⟨k,w,⟨hc2_0,hw,hc2_1⟩,rfl,rfl,rfl⟩
  refine yn ((k:Int)<sz) (fun h3=> ?_) fun h3=> ?_
  ·refine⟨⟨rfl,om ((0:Int)≤(X.length:Int)),om ((X.length:Int)≤1000000000)⟩,.inl ?_⟩
   refine⟨12+mS, [(10,.k),(11,.k),(12,.k),(16,.k),(17,.k),(18,.k),(19,.k),(88,.k),(89,.k),(95,.o .str),(96,.k),(97,.k)],fun nM vs H=>∃(i:Nat) (Y:List UInt8),(i≤U.length∧Y=ip (0:UInt8) (fun i=>(U.getD i []).getD k 0) X.length i)∧nM=U.length-i∧vs= [.i mS,.p 4,.p 5,.i w,.own (.sl .u8) 10,.i k,.own .u8 (11+mS),.i sz,.i k,.own .str 9,.i U.length,.i i]∧H=dB hs (mS+1) wr sz st ph me sh rows vals pl set X U w mS k++ [.r .u8 Y],⟨rfl,U.length,0,_,⟨by omega,(rF ..).symm⟩,by omega,rfl,rfl⟩,?_⟩
   rintro nM vs H ⟨i,Y,⟨hc3_0,hY⟩,rfl,rfl,rfl⟩
   have hyl:Y.length=X.length:=by rw [hY,mR]
   refine yn ((i:Int)<(U.length:Int)) (fun h4=> ?_) fun h4=> ?_
   ·have hvi:=hVs _ (bE [] U i (by omega))
    refine⟨ix i U.length,ix k (U.getD i []).length,ix i Y.length,fY,ap (i+1),?_⟩
    exact⟨rfl,U.length-(i+1),by omega,i+1,_,⟨by omega,by rw [hY];exact uY (f:=fun i=>(U.getD i []).getD k 0) (by omega)⟩,rfl,rfl,rfl⟩
   have hy:Y=x8 U k:=by rw [hY,show i=X.length by omega];exact Nh (by omega)
   have hC:Jb X U mS w k=kw X Y (mS-1) w:=by unfold Jb;rw [hy]
   refine⟨O4,rfl,rfl,⟨om (X.length≤10000),om (Y.length≤10000),I4 _ _ (by omega) _ _⟩,yn ((kw X Y (mS-1) w).2.2≠0) (fun h5=> ?_) fun h5=> ?_⟩
   ·have hN:¬x9 wr sz mS X U:=fun g=>by have:=g.2 k (by omega);rw [←hw,hC] at this;exact h5 this
    exact⟨rfl,rfl,by rw [←hX,←hU,Ja hN,I9 hN];rfl,rfl⟩
   have hP:Sj X U mS w k=(kw X Y (mS-1) w).1++List.replicate mS 0:=by unfold Sj;rw [hC];rfl
   have hdt:=I6 (ys:=Y) (d:=(mS:Int)-1) (w:=w) (show X.length≤10000 by omega)
   have hall:∀j:Nat,j<k+1→(Jb X U mS w j).2.2=0:=fun j hj=>by
    rcases Nat.lt_or_ge j k with g|g
    ·exact hc2_1 j g
    ·obtain rfl:j=k:=by omega
     rw [hC];exact nw h5
   refine⟨fY,⟨qd,om ((kw X Y (mS-1) w).1.length+mS≤1000000000)⟩,.inr ?_⟩
   refine ya ?_
   repeat refine⟨by kernel_rfl,qi,ixp,fY,l9r,qi,gY,O4,ye ?_⟩
   refine⟨by kernel_rfl,qi,ixp,fY,l9r,qi,gY,O4,na ?_⟩
   refine⟨ap (k+1),?_⟩
   exact⟨rfl,sz.toNat-(k+1),by omega,k+1,w,⟨by omega,hw,hall⟩,rfl,rfl,by rw [Nn hP];rfl⟩
  refine .inr ?_
  refine ya ?_
  first|refine⟨qi,lq,O4,ye ?_⟩|refine⟨qi,lq,O4,na ?_⟩
  repeat refine⟨qi,fY,lq,O4,ye ?_⟩
  try refine⟨qi,fY,lq,O4,nf ?_⟩
  have hO:x9 wr sz mS X U:=⟨by omega,fun j hj=>by rw [←hw];exact hc2_1 j (by omega)⟩
  exact⟨rfl,rfl,by rw [←hX,←hU,Nm hO,Nl hO,←hw,show sz.toNat=k by omega];rfl,rfl⟩
noncomputable def Vu:List V→Option (Prop×V×List Blk)
 |[.agg [.sl false (.int .i64) hs,.int .i64 nd,.int .i64 wr,.int .i64 sz,.int .i64 st,.int .i64 ph],.agg [.int .i64 me,.str sh,.sl false (.sl .str) rows,.sl false (.sl (.sl .str)) vals],.int .i64 pl,.int .i64 set]=>some (hs.length≤12∧(∀x∈hs,0≤x∧x<12)∧vals.length=hs.length∧(∀x∈vals,x.length=hs.length)∧0≤wr∧wr≤12∧1≤sz∧sz≤4096∧0≤pl∧pl<(hs.length:Int)∧0≤set∧set<4096∧(∀v∈vals,∀x∈v,0<x.length→((x.getD 0 []).length:Int)=sz)∧2≤nd∧nd≤7,.tup [.sl true .str (yA wr sz (nd-1) (jV set (vals.getD (pl).toNat []) (a5 me 0 hs)) (ja set (vals.getD (pl).toNat []) (a5 me 0 hs))),.b (x9 wr sz (nd-1) (jV set (vals.getD (pl).toNat []) (a5 me 0 hs)) (ja set (vals.getD (pl).toNat []) (a5 me 0 hs)))], [])
 |_=>none
theorem aBd (hs:List Int) (nd wr sz st ph me:Int) (sh:List UInt8) (rows:List (List (List UInt8))) (vals:List (List (List (List UInt8)))) (pl:Int) (set:Int) (hp0:hs.length≤12) (hp1:(∀x∈hs,0≤x∧x<12)) (hp2:vals.length=hs.length) (hp3:(∀x∈vals,x.length=hs.length)) (hp4:0≤wr) (hp5:wr≤12) (hp6:1≤sz) (hp7:sz≤4096) (hp8:0≤pl) (hp9:pl<(hs.length:Int)) (hp10:0≤set) (hp11:set<4096) (hp12:(∀v∈vals,∀x∈v,0<x.length→((x.getD 0 []).length:Int)=sz)) (hp13:2≤nd) (hp14:nd≤7):bI (En Oi tys G6 ct [1000000,1000001]) Tryd.f45 [.d .str,.k] [Lc hs nd wr sz st ph,Pt me sh rows vals,.int .i64 pl,.int .i64 set] (.tup [.sl true .str (yA wr sz (nd-1) (jV set (vals.getD (pl).toNat []) (a5 me 0 hs)) (ja set (vals.getD (pl).toNat []) (a5 me 0 hs))),.b (x9 wr sz (nd-1) (jV set (vals.getD (pl).toNat []) (a5 me 0 hs)) (ja set (vals.getD (pl).toNat []) (a5 me 0 hs)))]) []:=by
 obtain⟨m,hm⟩:∃m:Nat,nd-1=m:=⟨(nd-1).toNat,by omega⟩
 rw [hm]
 exact @aBc m ⟨trivial⟩ (by omega) hs nd wr sz st ph me sh rows vals pl set (by omega) hp0 hp1 hp2 hp3 hp4 hp5 hp6 hp7 hp8 hp9 hp10 hp11 hp12
noncomputable def Uc:List (Nat×bW):=(45,aW [.v yH,.v kr,.v (.int .i64),.v (.int .i64)] Vu)::Oi
theorem aAi:Known Tryd.prog (En Uc tys G6 ct):=Known.frz0<|(aAq.frz [1000000,1000001]).add Tryd.func45 Tryd.call45 [.d .str,.k] fun ds p v bs h hp=>by
 unfold Vu at h
 split at h<;>simp only [Option.some.injEq,Prod.mk.injEq,reduceCtorEq] at h
 obtain⟨rfl,rfl,rfl⟩:=h
 exact aBd _ _ _ _ _ _ _ _ _ _ _ _ hp.1 hp.2.1 hp.2.2.1 hp.2.2.2.1 hp.2.2.2.2.1 hp.2.2.2.2.2.1 hp.2.2.2.2.2.2.1 hp.2.2.2.2.2.2.2.1 hp.2.2.2.2.2.2.2.2.1 hp.2.2.2.2.2.2.2.2.2.1 hp.2.2.2.2.2.2.2.2.2.2.1 hp.2.2.2.2.2.2.2.2.2.2.2.1 hp.2.2.2.2.2.2.2.2.2.2.2.2.1 hp.2.2.2.2.2.2.2.2.2.2.2.2.2.1 hp.2.2.2.2.2.2.2.2.2.2.2.2.2.2
end Go.Proofs.YtailffhfhekkpaaDoor.S62c

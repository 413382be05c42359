/- Texts of this claim. -/
import Derived.Test.YtogipicegdbhdaaDoorS5
import Derived.Test.YtogipicegdbhdaaDoorS1
import Derived.Test.YtogipicegdbhdaaDoorS6
import Derived.Test.YtogipicegdbhdaaDoorS4
set_option linter.unusedVariables false
set_option linter.unusedSimpArgs false
set_option linter.unusedSectionVars false
namespace Go.Proofs.YtogipicegdbhdaaDoor.S72d
set_option maxHeartbeats 20000000
open Go Go.Proofs.YtogipicegdbhdaaDoor.Vc Go.Proofs Go.Proofs.YtogipicegdbhdaaDoor.S72
set_option maxRecDepth 100000
theorem tz (x:Int):∀(l:List Int) (k:Nat),(bA x k l).map (·.2)=l.filter fun h=>decide (h≠x)
 |[],k=>rfl
 |a::l,k=>by
  rw [bA]
  by_cases h:a=x
  ·rw [if_pos h,tz x l (k+1),List.filter_cons_of_neg (by simp [h])]
  ·rw [if_neg h,List.map_cons,tz x l (k+1),List.filter_cons_of_pos (by simp [h])]
def psB (hs:List Int) (me:Int) (r:List (List UInt8)) (vk:List (List (List UInt8))) (j:Nat):Prop:=hs.getD j 0=me∨(0<(vk.getD j []).length∧(vk.getD j []).getD 0 []=cr r (hs.getD j 0))
instance (hs:List Int) (me:Int) (r:List (List UInt8)) (vk:List (List (List UInt8))) (j:Nat):Decidable (psB hs me r vk j):=by unfold psB;infer_instance
theorem Az {s h:Int} (b:Nat):(kx s h).toNat.testBit b=(s.toNat.testBit b||decide (h.toNat=b)):=by
 unfold kx
 rw [Int.toNat_natCast,Int.one_mul,mG,Nat.testBit_or]
 congr 1
 rw [Nat.testBit_two_pow]
theorem pY (vk:List (List (List UInt8))) (r:List (List UInt8)) (b:Nat):∀(l:List (Int×Int)) (a:Int),(oi vk r l a).toNat.testBit b=true↔a.toNat.testBit b=true∨∃p∈l,(0<(vk.getD p.1.toNat []).length∧(vk.getD p.1.toNat []).getD 0 []=cr r p.2)∧p.2.toNat=b
 |[],a=>⟨.inl,fun h=>h.resolve_right fun⟨_,hp,_⟩=>by cases hp⟩
 | p::l,a=>by
  rw [oi,List.foldl_cons]
  have ih:=pY vk r b l
  unfold oi at ih
  rw [ih]
  by_cases h:0<(vk.getD p.1.toNat []).length∧(vk.getD p.1.toNat []).getD 0 []=cr r p.2
  ·rw [if_pos h,Az,Bool.or_eq_true,decide_eq_true_iff]
   constructor
   ·rintro((g|g)|⟨q,g1,g2⟩)
    ·exact .inl g
    ·exact .inr ⟨p,by simp,h,g⟩
    ·exact .inr ⟨q,by simp [g1],g2⟩
   ·rintro(g|⟨q,g1,g2,g3⟩)
    ·exact .inl (.inl g)
    ·rcases List.mem_cons.1 g1 with rfl|g1
     ·exact .inl (.inr g3)
     ·exact .inr ⟨q,g1,g2,g3⟩
  ·rw [if_neg h]
   constructor
   ·rintro(g|⟨q,g1,g2⟩)
    ·exact .inl g
    ·exact .inr ⟨q,by simp [g1],g2⟩
   ·rintro(g|⟨q,g1,g2,g3⟩)
    ·exact .inl g
    ·rcases List.mem_cons.1 g1 with rfl|g1
     ·exact absurd g2 h
     ·exact .inr ⟨q,g1,g2,g3⟩
noncomputable def Z9 (hs:List Int) (nd wr sz me:Int) (rows:List (List (List UInt8))) (vals:List (List (List (List UInt8)))) (vd set:Int):List (List UInt8):=
 if(set/2^me.toNat)%2=1 then rows.getD (aZ vd hs 0).toNat [] else yA wr sz (nd-1) (kq set (vals.getD (aZ vd hs 0).toNat []) (bA me 0 hs)) (kr set (vals.getD (aZ vd hs 0).toNat []) (bA me 0 hs))
theorem Ov (xs:List UInt8) (vs:List (List UInt8)) (m w:Int) (k a:Nat):(Ud xs vs m w k).getD a 0=(Mk xs vs m w k).1.getD a 0:=by
 unfold Ud
 rw [List.getD_eq_getElem?_getD,List.getD_eq_getElem?_getD,List.getElem?_append]
 split
 ·rfl
 ·rw [List.getElem?_eq_none (by omega:(Mk xs vs m w k).1.length≤a),List.getElem?_replicate]
  split<;>rfl
open Go Go.Proofs.YtogipicegdbhdaaDoor.Vc Go.Proofs
set_option linter.unusedVariables false
open Go.Proofs.YtogipicegdbhdaaDoor.S72
open Go.Proofs.YtogipicegdbhdaaDoor.S72c (vJ zE fE)
theorem J8 (es:Ps) (k:Int):∀(l:List Int) (set more:Int),0≤set→set<4096→(∀h∈l,0≤h∧h<12)→cl es k l set more<4096
 |[],set,more,h0,h1,_=>by
  rw [cl]
  split<;>omega
 | a::l,set,more,h0,h1,hl=>by
  have ha:=hl a (by simp)
  have hn:=uB h0 h1 ha.1 ha.2
  have i1:=J8 es k l (kx set a) (more-1) hn.1 hn.2 fun h hh=>hl h (by simp [hh])
  have i2:=J8 es k l set more h0 h1 fun h hh=>hl h (by simp [hh])
  rw [cl]
  split
  ·exact h1
  ·split
   ·split
    ·exact i1
    ·exact i2
   ·exact i2
theorem Fe {hs:List Int} {wr:Int} {es:Ps} {v:Int×Int×Unit} (hb:∀h∈hs,0≤h∧h<12):∀k,v∈pA hs wr es k→0≤v.2.1∧v.2.1<4096
 |0,h=>by simp [pA] at h
 | k+1,h=>by
  rw [pA] at h
  rcases List.mem_append.1 h with h|h
  ·exact Fe hb k h
  ·unfold P1 at h
   split at h
   ·rename_i h0
    simp only [List.mem_singleton] at h
    subst h
    exact⟨h0,J8 es k _ 0 _ (by omega) (by omega) fun h hh=>hb h (List.mem_of_mem_drop hh)⟩
   ·cases h
theorem T9 {hs:List Int} {nd wr sz st ph:Int} {l:List RP} {v:Int×Int×Unit} (h:v∈ac hs nd wr sz st ph l):0≤v.2.1∧v.2.1<4096:=by
 unfold ac at h
 split at h
 ·rename_i h0
  exact Fe (P5 h0).hs12 _ h
 ·cases h
noncomputable def ln (hs:List Int) (nd wr sz me:Int) (rows:List (List (List UInt8))) (vals:List (List (List (List UInt8)))) (v:Int×Int×Unit):List (List UInt8):=Z9 hs nd wr sz me rows vals v.1 v.2.1
noncomputable def rz (hs:List Int) (nd wr sz st ph me:Int) (rows:List (List (List UInt8))) (vals:List (List (List (List UInt8)))) (l:List RP):List (List (List UInt8)):=(ac hs nd wr sz st ph l).map (ln hs nd wr sz me rows vals)
def mq (l:List (List (List UInt8))):Prop:=l.all (fun r=>decide (0<r.length))=true
instance (l:List (List (List UInt8))):Decidable (mq l):=by unfold mq;infer_instance
theorem vF {l:List (List (List UInt8))} {r:List (List UInt8)} (h:r∈l) (hr:r.length=0):¬mq l:=fun g=>by have:=of_decide_eq_true (List.all_eq_true.1 g _ h);omega
theorem tI {l:List (List (List UInt8))} {r:List (List UInt8)} (h:mq l) (hr:0<r.length):mq (l++ [r]):=by
 unfold mq at*
 rw [List.all_append,h,Bool.true_and,List.all_cons,List.all_nil,Bool.and_true];exact decide_eq_true hr
noncomputable def jM (hs:List Int) (nd wr sz st ph me:Int) (sh:List UInt8) (rows:List (List (List UInt8))) (vals:List (List (List (List UInt8)))) (l:List RP):Int:=
 if ly hs nd wr sz st ph=0 then(if mq (rz hs nd wr sz st ph me rows vals l) then fg me sh (rz hs nd wr sz st ph me rows vals l) else 17) else ly hs nd wr sz st ph
noncomputable def Tv (hs:List Int) (nd wr sz st ph me:Int) (sh:List UInt8) (rows:List (List (List UInt8))) (vals:List (List (List (List UInt8)))) (l:List RP):Int:=
 if jM hs nd wr sz st ph me sh rows vals l=0 then me else 0
noncomputable def Bq (hs:List Int) (nd wr sz st ph me:Int) (sh:List UInt8) (rows:List (List (List UInt8))) (vals:List (List (List (List UInt8)))) (l:List RP):List UInt8:=
 if jM hs nd wr sz st ph me sh rows vals l=0 then lF me sh (rz hs nd wr sz st ph me rows vals l) else []
theorem uX {hs:List Int} {nd wr sz st ph me:Int} {sh:List UInt8} {rows:List (List (List UInt8))} {vals:List (List (List (List UInt8)))} {l:List RP} (h:jM hs nd wr sz st ph me sh rows vals l≠0):Tv hs nd wr sz st ph me sh rows vals l=0∧Bq hs nd wr sz st ph me sh rows vals l= []:=⟨if_neg h,if_neg h⟩
theorem Tu {hs:List Int} {nd wr sz st ph me:Int} {sh:List UInt8} {rows:List (List (List UInt8))} {vals:List (List (List (List UInt8)))} {l:List RP} (h:jM hs nd wr sz st ph me sh rows vals l=fg me sh (rz hs nd wr sz st ph me rows vals l)):
  Tv hs nd wr sz st ph me sh rows vals l=rq me sh (rz hs nd wr sz st ph me rows vals l)∧Bq hs nd wr sz st ph me sh rows vals l=m7 me sh (rz hs nd wr sz st ph me rows vals l):=by
 unfold Tv Bq rq m7
 rw [h]
 exact⟨rfl,rfl⟩
def rm (nd sz:Int) (r:List (List UInt8)):Prop:=r.length=0∨((r.length:Int)=nd-1∧∀s∈r,(s.length:Int)=sz)
theorem Aw {nd sz:Int} {rows:List (List (List UInt8))} (h:∀r∈rows,rm nd sz r) (k:Nat):rm nd sz (rows.getD k []):=by
 by_cases g:k<rows.length
 ·exact h _ (bc [] rows k g)
 ·rw [List.getD_eq_getElem?_getD,List.getElem?_eq_none (by omega)];exact .inl rfl
theorem v7 {hs:List Int} {nd wr sz me vd set:Int} {rows:List (List (List UInt8))} {vals:List (List (List (List UInt8)))} (h1:2≤nd) (h2:0≤sz) (h:∀r∈rows,rm nd sz r):rm nd sz (Z9 hs nd wr sz me rows vals vd set):=by
 unfold Z9
 split
 ·exact Aw h _
 ·unfold yA
  split
  ·refine .inr ⟨by rw [List.length_map,List.length_range];omega,fun s hs=> ?_⟩
   obtain⟨a,_,rfl⟩:=List.mem_map.1 hs
   rw [Bv];omega
  ·exact .inl rfl
theorem yz {nd sz:Int} {r:List (List UInt8)} (h:rm nd sz r) (hn:nd≤1000):r.length≤1048576:=by
 rcases h with h|h<;>omega
theorem Fi {nd sz me:Int} {sh:List UInt8} {l:List (List (List UInt8))} (h1:2≤nd∧nd≤12) (h2:0≤sz∧sz≤4096) (hm:0≤me∧me<12) (hs:(sh.length:Int)=sz) (hl:∀r∈l,rm nd sz r) (hn:mq l):fg me sh l=0:=by
 unfold fg
 rw [if_pos (show fJ me from hm),if_pos (by omega),if_pos]
 refine List.all_eq_true.2 fun r hr=> ?_
 have h0:0<r.length:=of_decide_eq_true (List.all_eq_true.1 hn r hr)
 rcases hl r hr with g|⟨g1,g2⟩
 ·omega
 have hz:n0 r=sh.length:=by
  have:=g2 _ (bc [] r 0 h0)
  unfold n0
  omega
 refine m8 ?_ hz
 rw [kQ (by omega) (by omega)]
 refine List.all_eq_true.2 fun s hs=> ?_
 have:=g2 s hs
 rw [decide_eq_true (by omega:s.length=n0 r),decide_eq_true (by omega:s.length≤4096)];rfl
noncomputable def Sg:List V→Option (Prop×V×List Blk)
 |[.agg [.sl false (.int .i64) hs,.int .i64 nd,.int .i64 wr,.int .i64 sz,.int .i64 st,.int .i64 ph],.agg [.int .i64 me,.str sh,.sl false (.sl .str) rows,.sl false (.sl (.sl .str)) vals],.sl false (.cons (.int .i64) (.cons (.sl (.int .i64)) .nil)) l]=>some (hs.length≤2000000∧l.length≤20∧(∀p∈l,p.2.1.length≤1048576)∧rows.length=hs.length∧vals.length=hs.length∧(∀x∈vals,x.length=hs.length)∧(∀v∈vals,∀x∈v,0<x.length→((x.getD 0 []).length:Int)=sz)∧(∀r∈rows,rm nd sz r)∧0≤me∧me<12∧nd≤5,.tup [.agg [.int .i64 (Tv hs nd wr sz st ph me sh rows vals l),.str (Bq hs nd wr sz st ph me sh rows vals l)],.int .i64 (jM hs nd wr sz st ph me sh rows vals l)], [])
 |_=>none
theorem aCJ (hs:List Int) (nd wr sz st ph me:Int) (sh:List UInt8) (rows:List (List (List UInt8))) (vals:List (List (List (List UInt8)))) (l:List (Int×(List Int×Unit))):ap (En Vo tys G6 gI [1000002]) Tryd.f24 [.k,.k] Sg [La hs nd wr sz st ph,V8 me sh rows vals,.sl false oo l]:=by
 rintro⟨hp0,hp1,(hp2:(∀p∈l,p.2.1.length≤1048576)),hp3,hp4,(hp5:(∀x∈vals,x.length=hs.length)),(hp6:(∀v∈vals,∀x∈v,0<x.length→((x.getD 0 []).length:Int)=sz)),(hp7:(∀r∈rows,rm nd sz r)),hp8,hp9,hp10⟩
 refine⟨rfl,rfl,rfl,rfl,rfl,⟨om (hs.length≤2000000),om (l.length≤20),by assumption⟩,yn ((ly hs nd wr sz st ph)≠0) (fun h0=> ?_) fun h0=> ?_⟩
 ·refine⟨cm,?_⟩
  have e:jM hs nd wr sz st ph me sh rows vals l=ly hs nd wr sz st ph:=by unfold jM;rw [if_neg h0]
  obtain⟨e1,e2⟩:=uX (sh:=sh) (show jM hs nd wr sz st ph me sh rows vals l≠0 by rw [e];exact h0)
  rw [e1,e2,e]
  exact ao
 ·have hT:=P5 (nw h0)
  have hl12:=hT.l12
  have hsb:∀h∈hs,0≤h∧h<12:=hT.hs12
  obtain⟨⟨n1,n2⟩,⟨w1,w2⟩,⟨z1,z2⟩,_⟩:=hT.rg.1
  have hdl:=Om hs nd wr sz st ph l
  have hor:∀v,rm nd sz ((ln hs nd wr sz me rows vals) v):=fun v=>v7 n1 (by omega) hp7
  have hml:∀k,(((ac hs nd wr sz st ph l).take k).map (ln hs nd wr sz me rows vals)).length≤hs.length:=fun k=>by rw [List.length_map,List.length_take];omega
  refine⟨4, [(3,.k),(4,.k),(6,.k),(10,.w (.sl .str)),(27,.o (.cons (.int .i64) (.cons (.int .i64) .nil))),(28,.k),(29,.k)],fun nM vs H=>∃(k:Nat),k≤(ac hs nd wr sz st ph l).length∧mq (((ac hs nd wr sz st ph l).take k).map (ln hs nd wr sz me rows vals))∧nM=(ac hs nd wr sz st ph l).length-k∧vs= [.p 0,.p 1,.p 2,.own (.sl .str) 4,.own (.cons (.int .i64) (.cons (.int .i64) .nil)) 3,.i (((ac hs nd wr sz st ph l).length:Nat):Int),.i k]∧H= [Mm hs nd wr sz st ph,Yy me sh rows vals,.cells [.i 0,.str ([])],.r (.cons (.int .i64) (.cons (.int .i64) .nil)) (ac hs nd wr sz st ph l),.row false (.sl .str) (((ac hs nd wr sz st ph l).take k).map (ln hs nd wr sz me rows vals))],⟨rfl,(ac hs nd wr sz st ph l).length,0,by omega,rfl,by omega,rfl,rfl⟩,?_⟩
  rintro nM vs H ⟨k,hc1_0,hc1_1,rfl,rfl,rfl⟩
  refine yn ((k:Int)<(((ac hs nd wr sz st ph l).length:Nat):Int)) (fun h1=> ?_) fun h1=> ?_
  ·have hkl:k<(ac hs nd wr sz st ph l).length:=by omega
   have hvm:=bc (0,0,()) (ac hs nd wr sz st ph l) k hkl
   obtain⟨b0,b1⟩:=T9 hvm
   obtain⟨po0,po1,po2⟩:=iq (Ol hvm)
   have hst:=ca (0,0,()) (ln hs nd wr sz me rows vals) (ac hs nd wr sz st ph l) k hkl
   have hmk:=hml k
   have hrl:=yz (hor ((ac hs nd wr sz st ph l).getD k (0,0,()))) (by omega)
   refine⟨ix k (ac hs nd wr sz st ph l).length,cm,rfl,om (hs.length≤2000000),ix (aZ (((ac hs nd wr sz st ph l).getD k (0,0,())).1) hs 0) rows.length,⟨om ((0:Int)≤me),om (me≤(64:Int))⟩,.inr ⟨rfl,?_⟩⟩
   refine yn (((((((ac hs nd wr sz st ph l).getD k (0,0,())).2).1)/2^me.toNat)%2)=0) (fun h2=> ?_) fun h2=> ?_
   ·have hfr:(ln hs nd wr sz me rows vals) ((ac hs nd wr sz st ph l).getD k (0,0,()))=yA wr sz (nd-1) (kq ((ac hs nd wr sz st ph l).getD k (0,0,())).2.1 (vals.getD (aZ ((ac hs nd wr sz st ph l).getD k (0,0,())).1 hs 0).toNat []) (bA me 0 hs)) (kr ((ac hs nd wr sz st ph l).getD k (0,0,())).2.1 (vals.getD (aZ ((ac hs nd wr sz st ph l).getD k (0,0,())).1 hs 0).toNat []) (bA me 0 hs)):=if_neg (by omega)
    have hrl2:=hrl
    rw [hfr] at hrl2
    refine⟨rfl,rfl,rfl,rfl,rfl,rfl,rfl,rfl,⟨om (hs.length≤12),hsb,om (vals.length=hs.length),hp5,om (0≤wr),om (wr≤12),om (1≤sz),om (sz≤4096),om (0≤(aZ (((ac hs nd wr sz st ph l).getD k (0,0,())).1) hs 0)),om ((aZ (((ac hs nd wr sz st ph l).getD k (0,0,())).1) hs 0)<(hs.length:Int)),om (0≤((((ac hs nd wr sz st ph l).getD k (0,0,())).2).1)),om (((((ac hs nd wr sz st ph l).getD k (0,0,())).2).1)<4096),hp6,om (2≤nd),om (nd≤5)⟩,ny (¬(zQ wr sz (nd-1) (kq ((((ac hs nd wr sz st ph l).getD k (0,0,())).2).1) (vals.getD ((aZ (((ac hs nd wr sz st ph l).getD k (0,0,())).1) hs 0)).toNat []) (bA me 0 hs)) (kr ((((ac hs nd wr sz st ph l).getD k (0,0,())).2).1) (vals.getD ((aZ (((ac hs nd wr sz st ph l).getD k (0,0,())).1) hs 0)).toNat []) (bA me 0 hs)))) (fun h3=> ?_) fun h3=> ?_⟩
    ·refine yn ((((yA wr sz (nd-1) (kq ((((ac hs nd wr sz st ph l).getD k (0,0,())).2).1) (vals.getD ((aZ (((ac hs nd wr sz st ph l).getD k (0,0,())).1) hs 0)).toNat []) (bA me 0 hs)) (kr ((((ac hs nd wr sz st ph l).getD k (0,0,())).2).1) (vals.getD ((aZ (((ac hs nd wr sz st ph l).getD k (0,0,())).1) hs 0)).toNat []) (bA me 0 hs))).length:Nat):Int)=0) (fun h4=> ?_) fun h4=> ?_
     ·refine⟨cm,?_⟩
      have hr0:((ln hs nd wr sz me rows vals) ((ac hs nd wr sz st ph l).getD k (0,0,()))).length=0:=by rw [hfr];omega
      have e:jM hs nd wr sz st ph me sh rows vals l=17:=by unfold jM;rw [if_pos (nw h0),if_neg (vF (show(ln hs nd wr sz me rows vals) ((ac hs nd wr sz st ph l).getD k (0,0,()))∈(rz hs nd wr sz st ph me rows vals l) from List.mem_map.2 ⟨_,hvm,rfl⟩) hr0)]
      obtain⟨e1,e2⟩:=uX (sh:=sh) (show jM hs nd wr sz st ph me sh rows vals l≠0 by rw [e];decide)
      rw [e1,e2,e]
      exact ao
     ·have hrp:0<((ln hs nd wr sz me rows vals) ((ac hs nd wr sz st ph l).getD k (0,0,()))).length:=by rw [hfr];omega
      have hnx:mq (((ac hs nd wr sz st ph l).take (k+1)).map (ln hs nd wr sz me rows vals)):=by rw [hst];exact tI hc1_1 hrp
      refine⟨fN,l9 (((ac hs nd wr sz st ph l).take k).map (ln hs nd wr sz me rows vals)).length,aj (k+1),?_⟩
      exact⟨rfl,(ac hs nd wr sz st ph l).length-(k+1),by omega,k+1,by omega,hnx,rfl,rfl,by rw [hst,hfr];rfl⟩
    ·refine⟨cm,?_⟩
     have hr0:((ln hs nd wr sz me rows vals) ((ac hs nd wr sz st ph l).getD k (0,0,()))).length=0:=by rw [hfr];rw [yA,if_neg h3];rfl
     have e:jM hs nd wr sz st ph me sh rows vals l=17:=by unfold jM;rw [if_pos (nw h0),if_neg (vF (show(ln hs nd wr sz me rows vals) ((ac hs nd wr sz st ph l).getD k (0,0,()))∈(rz hs nd wr sz st ph me rows vals l) from List.mem_map.2 ⟨_,hvm,rfl⟩) hr0)]
     obtain⟨e1,e2⟩:=uX (sh:=sh) (show jM hs nd wr sz st ph me sh rows vals l≠0 by rw [e];decide)
     rw [e1,e2,e]
     exact ao
   ·have hfr:(ln hs nd wr sz me rows vals) ((ac hs nd wr sz st ph l).getD k (0,0,()))=rows.getD (aZ ((ac hs nd wr sz st ph l).getD k (0,0,())).1 hs 0).toNat []:=if_pos (by omega)
    have hrl2:=hrl
    rw [hfr] at hrl2
    refine yn ((((rows.getD ((aZ (((ac hs nd wr sz st ph l).getD k (0,0,())).1) hs 0).toNat) []).length:Nat):Int)=0) (fun h5=> ?_) fun h5=> ?_
    ·refine⟨cm,?_⟩
     have hr0:((ln hs nd wr sz me rows vals) ((ac hs nd wr sz st ph l).getD k (0,0,()))).length=0:=by rw [hfr];omega
     have e:jM hs nd wr sz st ph me sh rows vals l=17:=by unfold jM;rw [if_pos (nw h0),if_neg (vF (show(ln hs nd wr sz me rows vals) ((ac hs nd wr sz st ph l).getD k (0,0,()))∈(rz hs nd wr sz st ph me rows vals l) from List.mem_map.2 ⟨_,hvm,rfl⟩) hr0)]
     obtain⟨e1,e2⟩:=uX (sh:=sh) (show jM hs nd wr sz st ph me sh rows vals l≠0 by rw [e];decide)
     rw [e1,e2,e]
     exact ao
    ·have hrp:0<((ln hs nd wr sz me rows vals) ((ac hs nd wr sz st ph l).getD k (0,0,()))).length:=by rw [hfr];omega
     have hnx:mq (((ac hs nd wr sz st ph l).take (k+1)).map (ln hs nd wr sz me rows vals)):=by rw [hst];exact tI hc1_1 hrp
     refine⟨fN,l9 (((ac hs nd wr sz st ph l).take k).map (ln hs nd wr sz me rows vals)).length,aj (k+1),?_⟩
     exact⟨rfl,(ac hs nd wr sz st ph l).length-(k+1),by omega,k+1,by omega,hnx,rfl,rfl,by rw [hst,hfr];rfl⟩
  ·have hmk:=hml k
   refine⟨rfl,⟨os ((((ac hs nd wr sz st ph l).take k).map (ln hs nd wr sz me rows vals)).length≤1048576),fun x hx=>by obtain⟨v,_,rfl⟩:=List.mem_map.1 hx;exact yz (hor v) (by omega)⟩,cm,cm,?_⟩
   have hk:k=(ac hs nd wr sz st ph l).length:=by omega
   have hfl:((ac hs nd wr sz st ph l).take k).map (ln hs nd wr sz me rows vals)=(rz hs nd wr sz st ph me rows vals l):=by rw [hk,List.take_length];rfl
   have e:jM hs nd wr sz st ph me sh rows vals l=fg me sh (rz hs nd wr sz st ph me rows vals l):=by unfold jM;rw [if_pos (nw h0),if_pos (hfl▸hc1_1)]
   obtain⟨e1,e2⟩:=Tu e
   rw [e1,e2,e,←hfl]
   exact ao
noncomputable def Vm:List (Nat×bI):=(24,aS [.v F7,.v sK,.v (.sl oo)] Sg)::Vo
theorem aBR:Known Tryd.prog (En Vm tys G6 gI):=Known.frz0<|(aBT.frz [1000002]).addQ Tryd.func24 Tryd.call24 [.k,.k] fun ds _ _ _ h=>by unfold Sg at h;split at h;exact aCJ _ _ _ _ _ _ _ _ _ _ _;cases h
theorem qM:∀m,m<12→∀a,a<m→∀b,b<m→lM m a b<m*(m+1)/2∧lM m a b=lM m b a:=by decide+kernel
theorem iv {m z:Nat} {s:List UInt8} {a b:Nat} (ha:a<m) (hb:b<m):((iw m z s).getD a []).getD b []=(dn z (lM m a b) s).take z:=by
 simp [iw,List.getD_eq_getElem?_getD,ha,hb]
theorem uG {m z:Nat} {s:List UInt8} {l:Rw} (h:l∈iw m z s):∃a,a<m∧l=(List.range m).map fun b=>(dn z (lM m a b) s).take z:=by
 obtain⟨a,ha,rfl⟩:=List.mem_map.1 h
 exact⟨a,List.mem_range.1 ha,rfl⟩
theorem fS (m z:Nat) (s:List UInt8):(iw m z s).length=m:=by simp [iw]
theorem mL {m z:Nat} {s:List UInt8} (hm:m<12) (hl:s.length=z*(m*(m+1)/2)) {a b:Nat} (ha:a<m) (hb:b<m):((dn z (lM m a b) s).take z).length=z:=by
 rw [List.length_take,uh,hl]
 have h:=(qM m hm a ha b hb).1
 generalize lM m a b=p at h
 generalize m*(m+1)/2=K at h
 have h2:(p+1)*z≤K*z:=Nat.mul_le_mul_right z h
 rw [Nat.succ_mul] at h2
 rw [Nat.mul_comm z K]
 omega
theorem mK {nd sz:Int} {s:List UInt8} (h:kp nd sz s=0):dE nd (fH nd sz s)=0∧m6 (fH nd sz s)=sz.toNat:=by
 have hC:fH nd sz s=iw (nd-1).toNat sz.toNat s:=if_pos h
 unfold kp at h
 split at h
 ·cases h
 ·rename_i h1
  split at h
  ·rename_i h2
   rw [hC]
   generalize hm:(nd-1).toNat=m
   have hm1:1≤m∧m<12:=by omega
   have hnd:nd=(m:Int)+1:=by omega
   have hl:s.length=sz.toNat*(m*(m+1)/2):=by
    have e:(nd-1)*nd/2=((m*(m+1)/2:Nat):Int):=by
     rw [hnd,show(m:Int)+1-1=(m:Int) by omega,Int.natCast_ediv,Int.natCast_mul,Int.natCast_add];rfl
    rw [e] at h2
    have:((s.length:Nat):Int)=((sz.toNat*(m*(m+1)/2):Nat):Int):=by rw [h2,Int.natCast_mul,Int.toNat_of_nonneg (by omega)]
    exact Int.ofNat_inj.1 this
   have h00:m6 (iw m sz.toNat s)=sz.toNat:=by
    show(((iw m sz.toNat s).getD 0 []).getD 0 []).length=_
    rw [iv (by omega) (by omega),mL hm1.2 hl (by omega) (by omega)]
   refine⟨?_,h00⟩
   unfold dE
   rw [if_neg (by omega),if_neg (by rw [fS];omega),if_neg,if_neg (by omega),if_neg]
   ·intro e
    have:Ga (iw m sz.toNat s) (iw m sz.toNat s).length=true:=by
     rw [fS]
     refine List.all_eq_true.2 fun a ha=>List.all_eq_true.2 fun b hb=>decide_eq_true ?_
     have ha:=List.mem_range.1 ha
     have hb:=List.mem_range.1 hb
     rw [iv ha (by omega),iv (by omega) ha,(qM m hm1.2 a ha b (by omega)).2]
    rw [this] at e;cases e
   ·intro e
    have:(iw m sz.toNat s).all (iK (iw m sz.toNat s))=true:=by
     refine List.all_eq_true.2 fun l hl'=> ?_
     obtain⟨a,ha,rfl⟩:=uG hl'
     refine qh (by rw [fS];simp) ?_ (List.all_eq_true.2 fun x hx=>decide_eq_true ?_)
     ·rw [fS]
      simp [iw,List.getD_eq_getElem?_getD,show 0<m by omega]
     ·obtain⟨b,hb,rfl⟩:=List.mem_map.1 hx
      rw [h00,mL hm1.2 hl ha (List.mem_range.1 hb)]
    rw [this] at e;cases e
  ·cases h
structure SOk (hs:List Int) (nd sz:Int) (R:List (List (List UInt8))) (W:List (List (List (List UInt8)))):Prop where
 rl:R.length=hs.length
 vl:W.length=hs.length
 vv:∀x∈W,x.length=hs.length
 ro:∀r∈R,rm nd sz r
 vo:∀x∈W,∀y∈x,y.length=0∨((y.length:Int)=1∧((y.getD 0 []).length:Int)=sz)
theorem SOk.mxR {hs:List Int} {nd sz:Int} {R:List (List (List UInt8))} {W:List (List (List (List UInt8)))} (h:SOk hs nd sz R W) (hn:nd≤12):∀r∈R,r.length≤1048576:=fun r hr=>yz (h.ro r hr) (by omega)
theorem SOk.szd {hs:List Int} {nd sz:Int} {R:List (List (List UInt8))} {W:List (List (List (List UInt8)))} (h:SOk hs nd sz R W):∀v∈W,∀x∈v,0<x.length→((x.getD 0 []).length:Int)=sz:=fun v hv x hx h0=>by
 rcases h.vo v hv x hx with g|g
 ·omega
 ·exact g.2
theorem uF {nd sz:Int} {nz:List UInt8} (h:kp nd sz nz=0) (x:Int):rm nd sz (rowL (jL nd sz nz) (fH nd sz nz) x):=by
 obtain⟨h1,h2⟩:=mK h
 have hd:=s6 h1
 unfold rowL
 split
 ·refine .inr ⟨?_,fun s hs=> ?_⟩
  ·unfold g9
   rw [List.length_map]
   exact hd.len
  ·obtain⟨l,hl,rfl⟩:=List.mem_map.1 hs
   have hz:0≤sz:=by
    unfold kp at h
    split at h
    ·cases h
    ·omega
   have hll:=hd.rows l hl
   have hln:=hd.len
   have:=hd.n2
   rw [nk l (by omega) (hd.strs l hl),h2]
   omega
 ·exact .inl rfl
theorem kU {α:Type} {l:List α} {i:Nat} {a x:α} (h:x∈l.set i a):x∈l∨x=a:=List.mem_or_eq_of_mem_set h
theorem u7 {hs:List Int} {nd wr sz st ph me:Int} {sh nz:List UInt8} (h:c6 hs nd wr sz st ph me sh nz=0):ly hs nd wr sz st ph=0∧me∈hs∧kp nd sz nz=0∧(sh.length:Int)=sz:=by
 unfold c6 at h
 split at h
 ·rename_i h0
  split at h
  ·cases h
  ·rename_i h1
   split at h
   ·rename_i h2
    exact⟨h0,(du me hs 0 (by omega)).1 (by omega),h2.1,h2.2⟩
   ·cases h
 ·contradiction
theorem SOk.beg {hs:List Int} {nd wr sz st ph me:Int} {sh nz:List UInt8} (h:c6 hs nd wr sz st ph me sh nz=0):SOk hs nd sz (ov hs nd wr sz st ph me sh nz) (ou hs nd wr sz st ph me sh nz):=by
 obtain⟨b1,b2,b3,b4⟩:=u7 h
 obtain⟨_,_,e3,e4,_⟩:=lh h
 rw [e3,e4]
 refine⟨by simp,by simp,fun x hx=> ?_,fun r hr=> ?_,fun x hx y hy=> ?_⟩
 ·rw [List.eq_of_mem_replicate hx,List.length_replicate]
 ·rcases kU hr with g|g
  ·rw [List.eq_of_mem_replicate g];exact .inl rfl
  ·rw [g];exact uF b3 me
 ·rw [List.eq_of_mem_replicate hx] at hy
  rw [List.eq_of_mem_replicate hy];exact .inl rfl
theorem Aa {ss:List (List UInt8)} {n z:Int} (h:Co ss n z):(ss.length:Int)=n∧∀s∈ss,(s.length:Int)=z:=⟨h.1,fun s hs=>Classical.byContradiction fun g=>h.2 ⟨s,hs,g⟩⟩
theorem SOk.rcv {hs:List Int} {nd sz st ph me mk f t d tick:Int} {ss:List (List UInt8)} {R:List (List (List UInt8))} {W:List (List (List (List UInt8)))} (h:SOk hs nd sz R W):SOk hs nd sz (dH hs nd sz st ph me R mk f t d ss tick) (dR hs sz st ph me W mk f t d ss tick):=by
 have hR:(dH hs nd sz st ph me R mk f t d ss tick).length=hs.length∧∀r∈dH hs nd sz st ph me R mk f t d ss tick,rm nd sz r:=by
  unfold dH
  split
  ·rename_i g
   refine⟨by rw [List.length_set];exact h.rl,fun r hr=> ?_⟩
   rcases kU hr with e|e
   ·exact h.ro r e
   ·rw [e];exact .inr (Aa g.2.2.2.2.1)
  ·exact⟨h.rl,h.ro⟩
 have hV:(dR hs sz st ph me W mk f t d ss tick).length=hs.length∧(∀x∈dR hs sz st ph me W mk f t d ss tick,x.length=hs.length)∧∀x∈dR hs sz st ph me W mk f t d ss tick,∀y∈x,y.length=0∨((y.length:Int)=1∧((y.getD 0 []).length:Int)=sz):=by
  unfold dR
  split
  ·rename_i g
   have g1:¬aZ d hs 0<0:=fun e=>g.1 (by unfold cw;omega)
   have g2:=uP g1
   have hm:=bc [] W (aZ d hs 0).toNat (by rw [h.vl];exact g2)
   refine⟨by rw [List.length_set];exact h.vl,fun x hx=> ?_,fun x hx y hy=> ?_⟩
   ·rcases kU hx with e|e
    ·exact h.vv x e
    ·rw [e,List.length_set];exact h.vv _ hm
   ·rcases kU hx with e|e
    ·exact h.vo x e y hy
    ·rw [e] at hy
     rcases kU hy with e|e
     ·exact h.vo _ hm y e
     ·obtain⟨s1,s2⟩:=Aa g.2.2.2.1
      rw [e];exact .inr ⟨s1,s2 _ (bc [] ss 0 (by omega))⟩
  ·exact⟨h.vl,h.vv,h.vo⟩
 exact⟨hR.1,hV.1,hV.2.1,hR.2,hV.2.2⟩
theorem Ah (nd:Int) (cf:List (List (List UInt8))) (h:Int):(rowL nd cf h).length≤cf.length:=by
 unfold rowL
 split
 ·unfold g9;rw [List.length_map];exact Nat.le_refl _
 ·exact Nat.zero_le _
structure BMx (hs:List Int) (R:List (List (List UInt8))) (W:List (List (List (List UInt8)))) (M:List Ml):Prop where
 m:M.length≤1048576
 ms:∀m∈M,m.2.2.2.2.1.length≤1048576
 r:R.length≤1048576
 v:W.length≤1048576
 rs:∀x∈R,x.length≤1048576
 vs:∀x∈W,x.length≤1048576∧∀y∈x,y.length≤1048576
theorem Kf {hs:List Int} {nd wr sz st ph me:Int} {sh nz:List UInt8} (hh:hs.length≤1048576) (hz:nz.length≤1048576):BMx hs (ov hs nd wr sz st ph me sh nz) (ou hs nd wr sz st ph me sh nz) (ku hs nd wr sz st ph me sh nz):=by
 have hc:=Ip nd sz hz
 by_cases h:c6 hs nd wr sz st ph me sh nz=0
 ·obtain⟨_,_,e3,e4,e5⟩:=lh h
  rw [e3,e4,e5]
  refine⟨Nat.le_trans (kD ..) hh,fun m hm=> ?_,by simpa using hh,by simpa using hh,fun x hx=> ?_,fun x hx=> ?_⟩
  ·obtain⟨p,_,rfl⟩:=List.mem_map.1 hm
   exact Nat.le_trans (Ah _ _ _) hc.1
  ·rcases kU hx with g|g
   ·rw [List.eq_of_mem_replicate g];exact Nat.zero_le _
   ·rw [g];exact Nat.le_trans (Ah _ _ _) hc.1
  ·rw [List.eq_of_mem_replicate hx]
   exact⟨by simpa using hh,fun y hy=>by rw [List.eq_of_mem_replicate hy];exact Nat.zero_le _⟩
 ·obtain⟨_,_,e3,e4,e5⟩:=mi h
  rw [e3,e4,e5]
  exact⟨Nat.zero_le _,(fun _ h=>by cases h),Nat.zero_le _,Nat.zero_le _,(fun _ h=>by cases h),(fun _ h=>by cases h)⟩
theorem B6 (hs:List Int) (me:Int) (R:List (List (List UInt8))):∀k,∀m∈dx hs me R k,m.2.2.2.2.1.length≤1048576
 |0,m,h=>by simp [dx] at h
 | k+1,m,h=>by
  rw [dx] at h
  rcases List.mem_append.1 h with h|h
  ·exact B6 hs me R k m h
  ·split at h
   ·cases h
   ·obtain⟨p,_,rfl⟩:=List.mem_map.1 h
    show(1:Nat)≤1048576
    omega
instance (nd sz:Int) (r:List (List UInt8)):Decidable (rm nd sz r):=by unfold rm;infer_instance
structure Agr (xs:List UInt8) (Q:Nat→List UInt8):Prop where
 nd:xs.Nodup
 sz:∀k,k<xs.length→sz (Q k)≤xs.length
 sym:∀k l,k<xs.length→l<xs.length→aB (xs.getD k 0) (Q l)=aB (xs.getD l 0) (Q k)
def Qi (xs:List UInt8) (Q:Nat→List UInt8):Nat→List UInt8
 |0=> []
 |n+1=>dC [Qi xs Q n,(Q n).map (aI (aB 0 (x8 xs n)))]
theorem An (xs:List UInt8) (Q:Nat→List UInt8) (z:UInt8):∀n,aB z (Qi xs Q n)=xs' (fun k=>aI (aB 0 (x8 xs k)) (aB z (Q k))) n
 |0=>rfl
 |n+1=>by
  show aB z (dC [_,_])=xs' _ n^^^aI (aB 0 (x8 xs n)) (aB z (Q n))
  rw [dU,An xs Q z n,i6]
theorem Hk {xs:List UInt8} {Q:Nat→List UInt8} (h:Agr xs Q):∀n,n≤xs.length→sz (Qi xs Q n)≤xs.length
 |0,_=>Nat.zero_le _
 |n+1,hn=>gv _ _ _ (Hk h n (by omega)) (Nat.le_trans (F8 _ _) (h.sz n (by omega)))
theorem B1 {xs:List UInt8} {Q:Nat→List UInt8} (h:Agr xs Q) {q:List UInt8} (hq:sz q≤xs.length) (z:UInt8) (hv:∀k,k<xs.length→aB (xs.getD k 0) q=aB z (Q k)):aB 0 q=aB z (Qi xs Q xs.length):=by
 rw [An,uL xs h.nd q hq 0]
 exact cq fun k hk=>by rw [hv k hk]
def own (xs:List UInt8) (Q:Nat→List UInt8) (z:UInt8):List UInt8:=zD xs (fun k=>aB z (Q k)) xs.length
theorem Hw (xs:List UInt8) (Q:Nat→List UInt8) (z:UInt8):sz (own xs Q z)≤xs.length:=uM _ _ _
theorem S2 {xs:List UInt8} {Q:Nat→List UInt8} (h:Agr xs Q) (z:UInt8) {k:Nat} (hk:k<xs.length):aB (xs.getD k 0) (own xs Q z)=aB z (Q k):=Be xs h.nd _ k hk
theorem Hv {xs:List UInt8} {Q:Nat→List UInt8} (h:Agr xs Q) (z:UInt8):aB 0 (own xs Q z)=aB z (Qi xs Q xs.length):=B1 h (Hw _ _ _) z fun _ hk=>S2 h z hk
theorem Hx {xs:List UInt8} {Q:Nat→List UInt8} (h:Agr xs Q) {q:List UInt8} (hq:sz q≤xs.length) (x z:UInt8) (hv:∀k,k<xs.length→aB (xs.getD k 0) q=aB x (Q k)):aB x (own xs Q z)=aB z q:=by
 unfold own
 rw [mP,uL xs h.nd q hq z]
 have e1:xs' (fun k=>aI (aB x (x8 xs k)) (aB z (Q k))) xs.length=xs' (fun k=>xs' (fun l=>aI (aB x (x8 xs k)) (aI (aB z (x8 xs l)) (aB (xs.getD l 0) (Q k)))) xs.length) xs.length:=
  cq fun k hk=>by rw [pd,←uL xs h.nd (Q k) (h.sz k hk) z]
 have e2:xs' (fun l=>aI (aB z (x8 xs l)) (aB (xs.getD l 0) q)) xs.length=xs' (fun l=>xs' (fun k=>aI (aB z (x8 xs l)) (aI (aB x (x8 xs k)) (aB (xs.getD k 0) (Q l)))) xs.length) xs.length:=
  cq fun l hl=>by rw [pd,←uL xs h.nd (Q l) (h.sz l hl) x,hv l hl]
 rw [e1,e2,tM]
 refine cq fun l hl=>cq fun k hk=> ?_
 rw [h.sym l k hl hk]
 ac_rfl
def bits (A:List Int):Int:=A.foldl kx 0
theorem rH:∀(A:List Int) (s:Int) (b:Nat),(A.foldl kx s).toNat.testBit b=true↔s.toNat.testBit b=true∨∃a∈A,a.toNat=b
 |[],s,b=>by simp
 |a::A,s,b=>by
  rw [List.foldl_cons,rH A (kx s a) b,Az]
  simp only [Bool.or_eq_true,decide_eq_true_eq,List.mem_cons,exists_eq_or_imp]
  exact or_assoc
theorem f7 (A:List Int) (b:Nat):(bits A).toNat.testBit b=true↔∃a∈A,a.toNat=b:=by
 unfold bits
 rw [rH]
 simp
theorem Kd (A B:List Int):bits (A++B)=B.foldl kx (bits A):=List.foldl_append ..
theorem tB (A:List Int) (h:Int):bits (A++ [h])=kx (bits A) h:=Kd A [h]
def yD (es:Ps) (k:Int) (A:List Int):Prop:=∀a∈A,∃ag,aW es a=some ag∧∀b∈A,(ag.getD k.toNat 0).toNat.testBit b.toNat=true
theorem vD {a s:Nat}:a&&&s=s↔∀n,s.testBit n=true→a.testBit n=true:=by
 constructor
 ·intro h n hn
  have:=congrArg (fun x=>x.testBit n) h
  simp only [Nat.testBit_and,hn,Bool.and_true] at this
  exact this
 ·intro h
  apply Nat.eq_of_testBit_eq
  intro n
  rw [Nat.testBit_and]
  cases hs:s.testBit n with
  |false=>rw [Bool.and_false]
  |true=>rw [h n hs];rfl
theorem iZ (A:List Int):0≤bits A:=by
 unfold bits
 cases A with
 |nil=>exact Int.le_refl 0
 | cons a A=>
  have:∀(A:List Int) (s:Int),0≤s→0≤A.foldl kx s:=fun A=>by
   induction A with
   |nil=>intro s h;exact h
   |cons b A ih=>intro s h;exact ih _ (by unfold kx;exact Int.natCast_nonneg _)
  exact this _ _ (Int.le_refl 0)
theorem Ji {es:Ps} {k:Int} {A:List Int} {h:Int} (hes:∀e∈es,∀x∈e.2,0≤x) (hA:∀a∈A,0≤a) (hf:fits es k (bits A) h) (hc:yD es k A):yD es k (A++ [h]):=by
 obtain⟨ag,h1,h2,h3⟩:=hf
 obtain⟨h4,h5⟩:=Ih.1 h2
 have h5:=vD.1 h5
 intro a ha
 rcases List.mem_append.1 ha with ha1|ha
 ·obtain⟨ag2,g1,g2⟩:=hc a ha1
  refine⟨ag2,g1,fun b hb=> ?_⟩
  rcases List.mem_append.1 hb with hb|hb
  ·exact g2 b hb
  ·obtain rfl:=List.mem_singleton.1 hb
   refine Classical.byContradiction fun hn=>h3 _ (qa g1) ⟨?_,?_⟩
   ·show((((bits A)/2^a.toNat).toNat&&&1:Nat):Int)=1
    rw [mh (iZ A),(f7 A a.toNat).2 ⟨a,ha1,rfl⟩];rfl
   ·show((((ag2.getD k.toNat 0)/2^b.toNat).toNat&&&1:Nat):Int)=0
    have h0:0≤ag2.getD k.toNat 0:=by
     rcases Nat.lt_or_ge k.toNat ag2.length with hk|hk
     ·exact hes _ (qa g1) _ (bc 0 ag2 _ hk)
     ·rw [List.getD_eq_getElem?_getD,List.getElem?_eq_none hk];exact Int.le_refl 0
    rw [mh h0,Bool.eq_false_iff.2 hn];rfl
 ·obtain rfl:=List.mem_singleton.1 ha
  refine⟨ag,h1,fun b hb=> ?_⟩
  rcases List.mem_append.1 hb with hb|hb
  ·exact h5 _ ((f7 A b.toNat).2 ⟨b,hb,rfl⟩)
  ·obtain rfl:=List.mem_singleton.1 hb
   exact h4
theorem j9 {es:Ps} {k:Int} (hes:∀e∈es,∀x∈e.2,0≤x):∀(l A:List Int) (more:Int),(∀h∈l,0≤h)→(∀a∈A,0≤a)→0≤more→yD es k A→0≤cl es k l (bits A) more→
  ∃T,T.Sublist l∧(T.length:Int)=more∧cl es k l (bits A) more=bits (A++T)∧yD es k (A++T)
 |l,A,0,_,_,_,hc,_=>⟨[],List.nil_sublist _,rfl,by rw [uw,List.append_nil],by rw [List.append_nil];exact hc⟩
 |[],A,(more+1:Nat),_,_,_,hc,hx=>by
  rw [cl,if_neg (by omega)] at hx
  omega
 | h::l,A,(more+1:Nat),hl,hA,hm,hc,hx=>by
  have e1:((more+1:Nat):Int)-1=(more:Int):=by omega
  rw [cl,if_neg (by omega)] at hx ⊢
  by_cases hf:fits es k (bits A) h
  ·rw [if_pos hf] at hx ⊢
   rw [←tB,e1] at hx ⊢
   by_cases hy:0≤cl es k l (bits (A++ [h])) (more:Int)
   ·rw [if_pos hy] at hx ⊢
    obtain⟨T,t1,t2,t3,t4⟩:=j9 hes l (A++ [h]) (more:Int) (fun x hx=>hl x (List.mem_cons_of_mem _ hx)) (fun a ha=>by
     rcases List.mem_append.1 ha with ha|ha
     ·exact hA a ha
     ·rw [List.mem_singleton.1 ha];exact hl h (List.mem_cons_self)) (by omega) (Ji hes hA hf hc) hy
    refine⟨h::T,t1.cons_cons h,by rw [List.length_cons];omega,by rw [t3,List.append_assoc];rfl,?_⟩
    rw [List.append_assoc] at t4
    exact t4
   ·rw [if_neg hy] at hx ⊢
    obtain⟨T,t1,t2,t3,t4⟩:=j9 hes l A _ (fun x hx=>hl x (List.mem_cons_of_mem _ hx)) hA hm hc hx
    exact⟨T,t1.cons h,t2,t3,t4⟩
  ·rw [if_neg hf] at hx ⊢
   obtain⟨T,t1,t2,t3,t4⟩:=j9 hes l A _ (fun x hx=>hl x (List.mem_cons_of_mem _ hx)) hA hm hc hx
   exact⟨T,t1.cons h,t2,t3,t4⟩
 |_,_,Int.negSucc _,_,_,hm,_,_=>by omega
section
abbrev eX:=List (List UInt8)
theorem Hj {hs:List Int} {me:Int} {R:List eX} {W:List (List eX)} {k:Nat} (hk:k<hs.length):(fA hs me R W).getD k 0=dI hs me R W k:=by
 unfold fA
 rw [gD (by simpa using hk)];simp
theorem Hm {hs:List Int} (hb:∀x∈hs,0≤x∧x<12) {me b:Int} (hm:0≤me) (h0:0≤b) {R:List eX} {W:List (List eX)} {k:Nat} (hk:k<hs.length) (h:((fA hs me R W).getD k 0).toNat.testBit b.toNat=true):
  (R.getD k []).length≠0∧(b=me∨∃j:Nat,j<hs.length∧hs.getD j 0=b∧b≠me∧0<((W.getD k []).getD j []).length∧((W.getD k []).getD j []).getD 0 []=cr (R.getD k []) b):=by
 rw [Hj hk] at h
 unfold dI at h
 split at h
 ·simp at h
 ·rename_i hr
  refine⟨hr,?_⟩
  rcases(pY _ _ _ _ _).1 h with h|⟨p,hp,⟨h1,h2⟩,h3⟩
  ·left
   rw [Int.one_mul,mG,Nat.testBit_two_pow] at h
   have:=of_decide_eq_true h
   omega
  ·right
   obtain⟨j,j1,j2,j3,j4⟩:=fQ hs 0 hp
   have hpb:p.2=b:=by
    have:=hb _ (bc 0 hs j j1)
    rw [←j3] at this
    omega
   refine⟨j,j1,by rw [←j3,hpb],by rw [←hpb];exact j4,?_,?_⟩
   ·rw [j2] at h1;simpa using h1
   ·rw [j2,hpb] at h2;simpa using h2
structure Played (hs:List Int) (nd wr sz st ph:Int) (hon:List Int) (R:Int→List eX) (W:Int→List (List eX)) (l:List RP):Prop where
 tk:Tk hs nd wr sz st ph
 sub:hon.Sublist hs
 many:(hs.length:Int)≤hon.length+wr
 rl:∀h∈hon,(R h).length=hs.length
 ok:∀h∈hon,∀r∈R h,rm nd sz r
 val:∀h∈hon,∀k j:Nat,k<hs.length→j<hs.length→hs.getD j 0∈hon→hs.getD j 0≠h→
  ((W h).getD k []).getD j []= []∨(((R (hs.getD j 0)).getD k []).length≠0∧((W h).getD k []).getD j []= [cr ((R (hs.getD j 0)).getD k []) h])
 vsz:∀h∈hon,∀v∈W h,∀x∈v,0<x.length→((x.getD 0 []).length:Int)=sz
 post:∀h∈hon,aW (e7 hs l) h=some (fA hs h (R h) (W h))
section
variable {hs:List Int} {nd wr sz st ph:Int} {hon:List Int} {R:Int→List eX} {W:Int→List (List eX)} {l:List RP} (P:Played hs nd wr sz st ph hon R W l)
include P
theorem Played.in {h:Int} (hh:h∈hon):h∈hs:=P.sub.subset hh
theorem Played.bd {h:Int} (hh:h∈hon):0≤h∧h<12:=P.tk.hs12 h (P.in hh)
theorem Played.psok:Pv hs (e7 hs l):=ue P.tk.hs12 l [] (fun _ h=>by cases h)
theorem Played.agree {k:Nat} (hk:k<hs.length) {T:List Int} (hc:yD (e7 hs l) k T) {a b:Int} (ha:a∈hon) (hb:b∈hon) (ha2:a∈T) (hb2:b∈T):
  ((R a).getD k []).length≠0∧cr ((R a).getD k []) b=cr ((R b).getD k []) a:=by
 obtain⟨ag,h1,h2⟩:=hc a ha2
 rw [P.post a ha] at h1
 injection h1 with h1
 have hba:=h2 b hb2
 rw [←h1,Int.toNat_natCast] at hba
 obtain⟨r0,hv⟩:=Hm P.tk.hs12 (P.bd ha).1 (P.bd hb).1 hk hba
 refine⟨r0,?_⟩
 rcases hv with rfl|⟨j,j1,j2,j3,j4,j5⟩
 ·rfl
 ·rw [←j5]
  subst j2
  rcases P.val a ha k j hk j1 hb j3 with e|⟨_,e⟩
  ·rw [e] at j4;simp at j4
  ·rw [e];rfl
end
end
theorem M8 {a b:Int} (ha:0≤a∧a<12) (hb:0≤b∧b<12) (h:pt a=pt b):a=b:=by
 have:=Sw (a:=a.toNat) (b:=b.toNat) (by omega) (by omega) (by rw [Int.toNat_of_nonneg ha.1,Int.toNat_of_nonneg hb.1];exact h)
 omega
theorem nP:∀(l:List Int),l.Nodup→(∀i∈l,0≤i∧i<12)→(l.map pt).Nodup
 |[],_,_=>List.nodup_nil
 |a::l,hn,hl=>by
  rw [List.map_cons,List.nodup_cons]
  rw [List.nodup_cons] at hn
  refine⟨fun h=> ?_,nP l hn.2 fun i hi=>hl i (List.mem_cons_of_mem _ hi)⟩
  obtain⟨b,hb,e⟩:=List.mem_map.1 h
  have:=M8 (hl b (List.mem_cons_of_mem _ hb)) (hl a List.mem_cons_self) e
  exact hn.1 (this▸hb)
theorem Tk.nodup {hs:List Int} {nd wr sz st ph:Int} (h:Tk hs nd wr sz st ph):hs.Nodup:=by
 exact List.pairwise_iff_getElem.2 fun i j hi hj hij e=>by
  have:=qU h.ho hi hj (by rw [gD hi,gD hj];exact e)
  omega
theorem qF {nd sz:Int} {r:eX} (hn:2≤nd∧nd≤12) (hz:1≤sz∧sz≤4096) (h:rm nd sz r) (h0:r.length≠0):r.length=(nd-1).toNat∧(∀s∈r,s.length=sz.toNat)∧av r=true:=by
 rcases h with h|⟨h1,h2⟩
 ·exact absurd h h0
 ·have hz2:n0 r=sz.toNat:=by
   have:=h2 _ (bc [] r 0 (by omega))
   unfold n0
   omega
  refine⟨by omega,fun s hs=>by have:=h2 s hs;omega,?_⟩
  rw [kQ (by omega) (by omega)]
  refine List.all_eq_true.2 fun s hs=> ?_
  have:=h2 s hs
  rw [decide_eq_true (by omega:s.length=n0 r),decide_eq_true (by omega:s.length≤4096)];rfl
theorem ii {nd sz:Int} {r:eX} (hn:2≤nd∧nd≤12) (hz:1≤sz∧sz≤4096) (h:rm nd sz r) (h0:r.length≠0) {x:Int} (hx:0≤x∧x<12) {b:Nat} (hb:b<sz.toNat):
  (cr r x).length=sz.toNat∧(cr r x).getD b 0=aB (pt x) (lZ r b):=by
 obtain⟨h1,h2,h3⟩:=qF hn hz h h0
 have e:tU r x=0:=by unfold tU;rw [if_pos h3,if_pos (show fJ x from hx)]
 unfold cr
 rw [if_pos e]
 exact⟨nk r (by omega) h2,u9 hb r (by omega) h2⟩
theorem aBj (r:eX) (b:Nat):aB 0 (lZ r b)=(r.getD 0 []).getD b 0:=by
 cases r with
 |nil=>rfl
 |cons s r=>
  show aI _ 0^^^s.getD b 0=_
  rw [bN];simp
def Eg (hon T:List Int):List Int:=T.filter fun h=>decide (h∈hon)
theorem xG {hon T:List Int} {h:Int}:h∈Eg hon T↔h∈T∧h∈hon:=by simp [Eg]
theorem fl {α:Type} (p:α→Bool):∀l:List α,(l.filter p).length+(l.filter fun x=> !p x).length=l.length
 |[]=>rfl
 |a::l=>by
  have:=fl p l
  cases h:p a<;>simp [h]<;>omega
theorem Je {hs hon T:List Int} (h1:hon.Sublist hs) (h2:T.Sublist hs):T.length+hon.length≤(Eg hon T).length+hs.length:=by
 have a:=fl (fun h=>decide (h∈hon)) T
 have b:=fl (fun h=>decide (h∈hon)) hs
 have c:(T.filter fun x=> !decide (x∈hon)).length≤(hs.filter fun x=> !decide (x∈hon)).length:=(h2.filter _).length_le
 have d:hon.length≤(hs.filter fun h=>decide (h∈hon)).length:=by
  have:(hon.filter fun h=>decide (h∈hon))=hon:=List.filter_eq_self.2 fun x hx=>decide_eq_true hx
  have e:=(h1.filter fun h=>decide (h∈hon)).length_le
  rw [this] at e
  exact e
 unfold Eg
 omega
theorem sj (p X Y:List UInt8):∀n,(dt p X Y n).length=((List.range n).filter fun k=>decide (aB (X.getD k 0) p≠Y.getD k 0)).length
 |0=>rfl
 |n+1=>by
  have ih:=sj p X Y n
  rw [dt,List.range_succ,List.filter_append,List.length_append,←ih]
  by_cases h:aB (X.getD n 0) p≠Y.getD n 0
  ·rw [if_pos h,List.length_append,List.filter_cons_of_pos (by exact decide_eq_true h)];rfl
  ·rw [if_neg h,List.filter_cons_of_neg (by simpa using h)];rfl
theorem wc {X:List UInt8} (h:X.Nodup):∀(L:List Nat),L.Nodup→(∀i∈L,i<X.length)→(L.map fun i=>X.getD i 0).Nodup
 |[],_,_=>List.nodup_nil
 | a::L,hn,hl=>by
  rw [List.map_cons,List.nodup_cons]
  rw [List.nodup_cons] at hn
  refine⟨fun hm=> ?_,wc h L hn.2 fun i hi=>hl i (List.mem_cons_of_mem _ hi)⟩
  obtain⟨b,hb,e⟩:=List.mem_map.1 hm
  have e:X.getD b 0=X.getD a 0:=e
  have h1:=hl b (List.mem_cons_of_mem _ hb)
  have h2:=hl a List.mem_cons_self
  rw [gD h1,gD h2] at e
  have hp:=List.pairwise_iff_getElem.1 h
  have:b=a:=by
   rcases Nat.lt_trichotomy b a with hl2|hl2|hl2
   ·exact absurd e (hp b a h1 h2 hl2)
   ·exact hl2
   ·exact absurd e.symm (hp a b h2 h1 hl2)
  exact hn.1 (this▸hb)
theorem Ju {X Y q p:List UInt8} {m b e:Nat} (hX:X.Nodup) (hq:sz q≤m) (hp:sz p≤m) (g:Nat→Bool) (hg:∀i,i<X.length→g i=true→Y.getD i 0=aB (X.getD i 0) q)
  (hb:((List.range X.length).filter fun i=> !g i).length≤b) (hm:(dt p X Y X.length).length≤e) (hN:m+b+e≤X.length):aF p=aF q:=by
 rw [sj] at hm
 have h1:=fl g (List.range X.length)
 have h2:=fl (fun k=>decide (aB (X.getD k 0) p≠Y.getD k 0)) ((List.range X.length).filter g)
 have h3:(((List.range X.length).filter g).filter fun k=>decide (aB (X.getD k 0) p≠Y.getD k 0)).length≤((List.range X.length).filter fun k=>decide (aB (X.getD k 0) p≠Y.getD k 0)).length:=
  (List.filter_sublist.filter _).length_le
 rw [List.length_range] at h1
 let S:=((List.range X.length).filter g).filter fun k=> !decide (aB (X.getD k 0) p≠Y.getD k 0)
 have hS:m≤S.length:=(om (m≤(((List.range X.length).filter g).filter fun k=> !decide (aB (X.getD k 0) p≠Y.getD k 0)).length))
 have hmem:∀i∈S,i<X.length∧g i=true∧aB (X.getD i 0) p=Y.getD i 0:=fun i hi=>by
  obtain⟨h4,h5⟩:=List.mem_filter.1 hi
  obtain⟨h6,h7⟩:=List.mem_filter.1 h4
  refine⟨List.mem_range.1 h6,h7,?_⟩
  simpa using h5
 have hnS:S.Nodup:=(List.filter_sublist.trans List.filter_sublist).nodup List.nodup_range
 refine db (S.map fun i=>X.getD i 0) p q (wc hX S hnS fun i hi=>(hmem i hi).1) (fun x hx=> ?_) (by rw [List.length_map];omega) (by rw [List.length_map];omega)
 obtain⟨i,hi,rfl⟩:=List.mem_map.1 hx
 obtain⟨h4,h5,h6⟩:=hmem i hi
 show aB (X.getD i 0) p=aB (X.getD i 0) q
 rw [h6,hg i h4 h5]
section
def pick (hon T:List Int) (nd:Int):List Int:=(Eg hon T).take (nd-1).toNat
def x7 (hon T:List Int) (nd:Int):List UInt8:=(pick hon T nd).map pt
def qs (R:Int→List eX) (hon T:List Int) (nd:Int) (k b i:Nat):List UInt8:=lZ ((R ((pick hon T nd).getD i 0)).getD k []) b
theorem kP {nd sz:Int} {R:List eX} (h:∀r∈R,rm nd sz r) (k:Nat):rm nd sz (R.getD k []):=Aw h k
section
variable {hs:List Int} {nd wr sz st ph:Int} {hon:List Int} {R:Int→List eX} {W:Int→List (List eX)} {l:List RP} (P:Played hs nd wr sz st ph hon R W l)
variable {k:Nat} (hk:k<hs.length) {T:List Int} (hT:T.Sublist hs) (hl:(T.length:Int)=hs.length-wr) (hc:yD (e7 hs l) k T)
include P
theorem Played.nd2:2≤nd∧nd≤12:=P.tk.rg.1.1
theorem Played.sz1:1≤sz∧sz≤4096:=P.tk.rg.1.2.2.1
theorem Played.wr0:0≤wr:=P.tk.rg.1.2.1.1
include hT hl
theorem Played.goodLen:nd-1+wr≤((Eg hon T).length:Int):=by
 have:=Je P.sub hT
 have:=P.many
 have:=P.tk.q2
 omega
theorem Played.pickLen:(pick hon T nd).length=(nd-1).toNat:=by
 have:=P.goodLen hT hl
 have:=P.wr0
 unfold pick
 rw [List.length_take]
 omega
omit P hT hl in
theorem qO {hon T:List Int} {nd:Int} {i:Nat} (hi:i<(pick hon T nd).length):(pick hon T nd).getD i 0∈T∧(pick hon T nd).getD i 0∈hon:=
 xG.1 (List.mem_of_mem_take (bc 0 _ i hi))
omit P hT hl in
theorem ti {hon T:List Int} {nd:Int} {i:Nat} (hi:i<(pick hon T nd).length):(x7 hon T nd).getD i 0=pt ((pick hon T nd).getD i 0):=by
 unfold x7
 rw [gD (by rw [List.length_map];exact hi),gD hi,List.getElem_map]
theorem Played.ptsLen:(x7 hon T nd).length=(nd-1).toNat:=by unfold x7;rw [List.length_map];exact P.pickLen hT hl
include hk hc
theorem Played.mineAt {b:Nat} (hb:b<sz.toNat) {h:Int} (hh:h∈hon) (hh2:h∈T) {i:Nat} (hi:i<(pick hon T nd).length):
  aB (pt ((pick hon T nd).getD i 0)) (lZ ((R h).getD k []) b)=aB (pt h) (lZ ((R ((pick hon T nd).getD i 0)).getD k []) b):=by
 obtain⟨i1,i2⟩:=qO hi
 obtain⟨a1,a2⟩:=P.agree hk hc hh i2 hh2 i1
 obtain⟨b1,_⟩:=P.agree hk hc i2 hh i1 hh2
 rw [←(ii P.nd2 P.sz1 (kP (P.ok h hh) k) a1 (P.bd i2) hb).2,a2,(ii P.nd2 P.sz1 (kP (P.ok _ i2) k) b1 (P.bd hh) hb).2]
theorem Played.agr {b:Nat} (hb:b<sz.toNat):Agr (x7 hon T nd) (qs R hon T nd k b):=by
 have hpl:=P.pickLen hT hl
 have hpt:=P.ptsLen hT hl
 refine⟨nP _ (((List.take_sublist _ _).trans (List.filter_sublist.trans hT)).nodup P.tk.nodup) fun i hi=> ?_,fun i hi=> ?_,fun i j hi hj=> ?_⟩
 ·exact P.bd (xG.1 (List.mem_of_mem_take hi)).2
 ·obtain⟨i1,i2⟩:=qO (hon:=hon) (T:=T) (nd:=nd) (i:=i) (by omega)
  obtain⟨a1,_⟩:=P.agree hk hc i2 i2 i1 i1
  refine Nat.le_trans (jU _) ?_
  unfold qs
  rw [iV,(qF P.nd2 P.sz1 (kP (P.ok _ i2) k) a1).1,hpt]
  exact Nat.le_refl _
 ·obtain⟨j1,j2⟩:=qO (hon:=hon) (T:=T) (nd:=nd) (i:=j) (by omega)
  rw [ti (by omega),ti (by omega)]
  unfold qs
  exact P.mineAt hk hT hl hc hb j2 j1 (by omega)
theorem Played.mine {b:Nat} (hb:b<sz.toNat) {h:Int} (hh:h∈hon) (hh2:h∈T):(((R h).getD k []).getD 0 []).getD b 0=aB (pt h) (Qi (x7 hon T nd) (qs R hon T nd k b) (x7 hon T nd).length):=by
 have hpl:=P.pickLen hT hl
 have hpt:=P.ptsLen hT hl
 obtain⟨a1,_⟩:=P.agree hk hc hh hh hh2 hh2
 rw [←aBj]
 refine B1 (P.agr hk hT hl hc hb) (Nat.le_trans (jU _) ?_) _ fun i hi=> ?_
 ·rw [iV,(qF P.nd2 P.sz1 (kP (P.ok _ hh) k) a1).1,hpt];exact Nat.le_refl _
 ·rw [ti (by omega)]
  exact P.mineAt hk hT hl hc hb hh hh2 (by omega)
theorem Played.sentAt {b:Nat} (hb:b<sz.toNat) {h g:Int} (hh:h∈hon) (hh2:h∈T) (hg:0≤g∧g<12):(cr ((R h).getD k []) g).getD b 0=aB (pt h) (Go.Proofs.YtogipicegdbhdaaDoor.S72d.own (x7 hon T nd) (qs R hon T nd k b) (pt g)):=by
 have hpl:=P.pickLen hT hl
 have hpt:=P.ptsLen hT hl
 obtain⟨a1,_⟩:=P.agree hk hc hh hh hh2 hh2
 rw [(ii P.nd2 P.sz1 (kP (P.ok h hh) k) a1 hg hb).2]
 refine(Hx (P.agr hk hT hl hc hb) (Nat.le_trans (jU _) ?_) _ _ fun i hi=> ?_).symm
 ·rw [iV,(qF P.nd2 P.sz1 (kP (P.ok _ hh) k) a1).1,hpt];exact Nat.le_refl _
 ·rw [ti (by omega)]
  exact P.mineAt hk hT hl hc hb hh hh2 (by omega)
end
end
section
theorem aBh (p:List UInt8):aB 0 p=p.getD 0 0:=by
 cases p with
 |nil=>rfl
 |cons c p=>
  show aI _ 0^^^c=_
  rw [bN];simp
theorem ym {α:Type} (d:α) (F:List α):(List.range F.length).map (fun i=>F.getD i d)=F:=by
 apply List.ext_getElem
 ·simp
 ·intro i h1 h2
  rw [List.getElem_map,List.getElem_range,gD h2]
theorem tg {α:Type} (d:α) (F:List α) (q:α→Bool):((List.range F.length).filter fun i=>q (F.getD i d)).length=(F.filter q).length:=by
 conv=>rhs;rw [←ym d F,List.filter_map,List.length_map]
 rfl
theorem uI {α β:Type} (f:α→β) (d:α) (e:β) (F:List α) {i:Nat} (hi:i<F.length):(F.map f).getD i e=f (F.getD i d):=by
 rw [gD (by rw [List.length_map];exact hi),gD hi,List.getElem_map]
section
variable {hs:List Int} {nd wr sz st ph:Int} {hon:List Int} {R:Int→List eX} {W:Int→List (List eX)} {l:List RP} (P:Played hs nd wr sz st ph hon R W l)
variable {k:Nat} (hk:k<hs.length) {T:List Int} (hT:T.Sublist hs) (hl:(T.length:Int)=hs.length-wr) (hc:yD (e7 hs l) k T)
include P hk hT hl hc
theorem Played.heard {h:Int} (hh:h∈hon) {b:Nat} (hb:b<sz.toNat):let F:=(bA h 0 hs).filter (zR (bits T) ((W h).getD k []))
  (∀i,i<F.length→decide ((F.getD i (0,0)).2∈hon)=true→(E8 (kr (bits T) ((W h).getD k []) (bA h 0 hs)) b).getD i 0=aB (pt (F.getD i (0,0)).2) (Go.Proofs.YtogipicegdbhdaaDoor.S72d.own (x7 hon T nd) (qs R hon T nd k b) (pt h)))∧
  (F.map (·.2)).Sublist hs∧((List.range F.length).filter fun i=> !decide ((F.getD i (0,0)).2∈hon)).length≤wr.toNat:=by
 intro F
 have hF2:(F.map (·.2)).Sublist hs:=(List.filter_sublist.map _).trans (by rw [tz];exact List.filter_sublist)
 refine⟨fun i hi hg=> ?_,hF2,?_⟩
 ·have hg:(F.getD i (0,0)).2∈hon:=of_decide_eq_true hg
  obtain⟨m1,m2⟩:=List.mem_filter.1 (bc (0,0) F i hi)
  obtain⟨d1,d2⟩:=of_decide_eq_true m2
  obtain⟨j,j1,j2,j3,j4⟩:=fQ hs 0 m1
  have hT2:(F.getD i (0,0)).2∈T:=by
   rw [u6 (iZ T)] at d1
   obtain⟨a,a1,a2⟩:=(f7 T _).1 d1
   have h1:=P.tk.hs12 a (hT.subset a1)
   have h2:=P.bd hg
   have:a=(F.getD i (0,0)).2:=by omega
   rw [←this];exact a1
  have hj:(F.getD i (0,0)).1.toNat=j:=by rw [j2];omega
  have hv:=P.val h hh k j hk j1 (by rw [←j3];exact hg) (by rw [←j3];exact j4)
  have hY:(E8 (kr (bits T) ((W h).getD k []) (bA h 0 hs)) b).getD i 0=((((W h).getD k []).getD j []).getD 0 []).getD b 0:=by
   unfold E8 kr
   rw [List.map_map,uI _ (0,0) 0 F hi]
   show((((W h).getD k []).getD (F.getD i (0,0)).1.toNat []).getD 0 []).getD b 0=_
   rw [hj]
  rw [hY]
  rw [hj] at d2
  rcases hv with e|⟨_,e⟩
  ·rw [e] at d2;simp at d2
  ·rw [e]
   show(cr ((R (hs.getD j 0)).getD k []) h).getD b 0=_
   rw [←j3]
   exact P.sentAt hk hT hl hc hb hg hT2 (P.bd hh)
 ·rw [tg (0,0) F fun p=> !decide (p.2∈hon)]
  have e1:(F.filter fun p=> !decide (p.2∈hon)).length=((F.map (·.2)).filter fun h=> !decide (h∈hon)).length:=by
   rw [List.filter_map,List.length_map];rfl
  have e2:((F.map (·.2)).filter fun h=> !decide (h∈hon)).length≤(hs.filter fun h=> !decide (h∈hon)).length:=(hF2.filter _).length_le
  have e3:=fl (fun h=>decide (h∈hon)) hs
  have e4:hon.length≤(hs.filter fun h=>decide (h∈hon)).length:=by
   have:(hon.filter fun h=>decide (h∈hon))=hon:=List.filter_eq_self.2 fun x hx=>decide_eq_true hx
   have e:=(P.sub.filter fun h=>decide (h∈hon)).length_le
   rw [this] at e
   exact e
  have:=P.many
  have:=P.wr0
  omega
end
end
section
theorem nO {α:Type} [DecidableEq α]:∀(A B:List α),A.Nodup→(∀a∈A,a∈B)→A.length≤B.length
 |[],_,_,_=>Nat.zero_le _
 |a::A,B,hn,hs=>by
  rw [List.nodup_cons] at hn
  have h1:=hs a List.mem_cons_self
  have ih:=nO A (B.erase a) hn.2 fun x hx=>(List.mem_erase_of_ne (fun e:x=a=>hn.1 (by rw [←e];exact hx))).2 (hs x (List.mem_cons_of_mem _ hx))
  rw [List.length_erase_of_mem h1] at ih
  have:=List.length_pos_of_mem h1
  rw [List.length_cons]
  omega
section
variable {hs:List Int} {nd wr sz st ph:Int} {hon:List Int} {R:Int→List eX} {W:Int→List (List eX)} {l:List RP} (P:Played hs nd wr sz st ph hon R W l)
variable {k:Nat} (hk:k<hs.length) {T:List Int} (hT:T.Sublist hs) (hl:(T.length:Int)=hs.length-wr) (hc:yD (e7 hs l) k T)
include P hk hT hl hc
theorem Played.pts2 {h:Int}:let F:=(bA h 0 hs).filter (zR (bits T) ((W h).getD k []))
  kq (bits T) ((W h).getD k []) (bA h 0 hs)=F.map (fun p=>pt p.2)∧((F.map (·.2)).Sublist hs→(F.map fun p=>pt p.2).Nodup):=by
 intro F
 refine⟨rfl,fun hF2=> ?_⟩
 have:(F.map fun p=>pt p.2)=(F.map (·.2)).map pt:=by rw [List.map_map];rfl
 rw [this]
 exact nP _ (hF2.nodup P.tk.nodup) fun i hi=>P.tk.hs12 i (hF2.subset hi)
theorem Played.decoded {h:Int} (hh:h∈hon) (hO:zQ wr sz (nd-1) (kq (bits T) ((W h).getD k []) (bA h 0 hs)) (kr (bits T) ((W h).getD k []) (bA h 0 hs))) {b:Nat} (hb:b<sz.toNat):
  ((yA wr sz (nd-1) (kq (bits T) ((W h).getD k []) (bA h 0 hs)) (kr (bits T) ((W h).getD k []) (bA h 0 hs))).getD 0 []).getD b 0=aB (pt h) (Qi (x7 hon T nd) (qs R hon T nd k b) (x7 hon T nd).length):=by
 obtain⟨f1,f2,f3⟩:=P.heard hk hT hl hc hh hb
 obtain⟨e1,e2⟩:=P.pts2 hk hT hl hc (h:=h)
 have e2:=e2 f2
 have hpt:=P.ptsLen hT hl
 have hn:=P.nd2
 have hw:=P.wr0
 have hwl:=un (bits T) ((W h).getD k []) (bA h 0 hs)
 have hol:=mH h hs 0
 have hxl:=um (bits T) ((W h).getD k []) (bA h 0 hs)
 have h12:=P.tk.l12
 rw [←e1] at e2
 have hFl:((bA h 0 hs).filter (zR (bits T) ((W h).getD k []))).length=(kq (bits T) ((W h).getD k []) (bA h 0 hs)).length:=by rw [e1,List.length_map]
 have f1':∀i,i<(kq (bits T) ((W h).getD k []) (bA h 0 hs)).length→decide ((((bA h 0 hs).filter (zR (bits T) ((W h).getD k []))).getD i (0,0)).2∈hon)=true→(E8 (kr (bits T) ((W h).getD k []) (bA h 0 hs)) b).getD i 0=aB ((kq (bits T) ((W h).getD k []) (bA h 0 hs)).getD i 0) (Go.Proofs.YtogipicegdbhdaaDoor.S72d.own (x7 hon T nd) (qs R hon T nd k b) (pt h)):=fun i hi hg=>by
  have:=f1 i (by omega) hg
  rw [this,e1,uI _ (0,0) 0 _ (by omega)]
 rw [hFl] at f3
 generalize hXg:kq (bits T) ((W h).getD k []) (bA h 0 hs)=X at*
 generalize hUg:kr (bits T) ((W h).getD k []) (bA h 0 hs)=U at*
 obtain⟨o1,o2⟩:=hO
 have o3:=o2 b (by omega)
 have hYl:(E8 U b).length=X.length:=by unfold E8;rw [List.length_map];exact hwl
 have hok:mb X (nd-1-1) (Ot wr (nd-1) X):=by unfold mb Ot;omega
 have hdl:((yA wr sz (nd-1) X U).getD 0 []).getD b 0=(Mk X U (nd-1) (Ot wr (nd-1) X) b).1.getD 0 0:=by
  have r0:∀n i:Nat,i<n→(List.range n).getD i 0=i:=fun n i h=>by rw [gD (by rw [List.length_range];exact h),List.getElem_range]
  rw [yA,if_pos ⟨o1,o2⟩,uI _ 0 [] _ (by rw [List.length_range];omega),r0 _ _ (by omega)]
  unfold Jx
  rw [uI _ 0 0 _ (by rw [List.length_range];exact hb),r0 _ _ hb,Ov]
 rw [hdl]
 unfold Mk lX at o3 ⊢
 rcases nh X (E8 U b) ⟨e2,hYl.symm⟩ (by omega) _ _ hok with e|⟨p,e,p1,p2,p3⟩
 ·rw [e] at o3;cases o3
 ·rw [e]
  show p.getD 0 0=_
  rw [jE] at p2
  have same:=Ju (q:=Go.Proofs.YtogipicegdbhdaaDoor.S72d.own (x7 hon T nd) (qs R hon T nd k b) (pt h)) (p:=p) (Y:=E8 U b) (m:=(nd-1).toNat) (b:=wr.toNat) (e:=(Ot wr (nd-1) X).toNat) e2 (by have:=Hw (x7 hon T nd) (qs R hon T nd k b) (pt h);omega) (by omega) _ f1' f3 (by omega) (by unfold Ot;omega)
  rw [←aBh,←au 0 p,same,au,Hv (P.agr hk hT hl hc hb)]
end
end
section
section
variable {hs:List Int} {nd wr sz st ph:Int} {hon:List Int} {R:Int→List eX} {W:Int→List (List eX)} {l:List RP} (P:Played hs nd wr sz st ph hon R W l)
variable {k:Nat} (hk:k<hs.length) {T:List Int} (hT:T.Sublist hs) (hl:(T.length:Int)=hs.length-wr) (hc:yD (e7 hs l) k T)
include P hk hT hl hc
end
end
section
theorem yG {hs:List Int} {wr:Int} {es:Ps} {v:Int×Int×Unit}:∀{n:Nat},v∈pA hs wr es n→∃k:Nat,k<n∧0≤cl es (k:Int) hs 0 ((hs.length:Int)-wr)∧v=(hs.getD k 0,cl es (k:Int) hs 0 ((hs.length:Int)-wr),())
 |0,h=>by cases h
 | n+1,h=>by
  rw [pA] at h
  rcases List.mem_append.1 h with h|h
  ·obtain⟨k,h1,h2⟩:=yG h
   exact⟨k,by omega,h2⟩
  ·unfold P1 at h
   rw [List.drop_zero] at h
   split at h
   ·rename_i h0
    exact⟨n,by omega,h0,List.mem_singleton.1 h⟩
   ·cases h
theorem uQ {hs:List Int} (ho:dk (-1) hs=true) {k:Nat} (hk:k<hs.length):(aZ (hs.getD k 0) hs 0).toNat=k:=by
 obtain⟨h0,h1,h2⟩:=iq (bc 0 hs k hk)
 exact qU ho h1 hk h2
section
variable {hs:List Int} {nd wr sz st ph:Int} {hon:List Int} {R:Int→List eX} {W:Int→List (List eX)} {l:List RP} (P:Played hs nd wr sz st ph hon R W l)
include P
theorem Played.verdict {v:Int×Int×Unit} (hv:v∈ac hs nd wr sz st ph l):∃(k:Nat) (T:List Int),k<hs.length∧T.Sublist hs∧(T.length:Int)=hs.length-wr∧yD (e7 hs l) k T∧v=(hs.getD k 0,bits T,()):=by
 unfold ac at hv
 rw [if_pos P.tk.e] at hv
 obtain⟨k,h1,h2,h3⟩:=yG hv
 have hw:=P.wr0
 have hq:=P.tk.q1
 have hn:=P.nd2
 obtain⟨T,t1,t2,t3,t4⟩:=j9 (es:=e7 hs l) (k:=(k:Int)) (fun e he x hx=>((P.psok e he).2.2 x hx).1) hs [] ((hs.length:Int)-wr) (fun h hh=>(P.tk.hs12 h hh).1) (fun _ h=>by cases h) (by omega) (fun _ h=>by cases h) h2
 have t3:cl (e7 hs l) (k:Int) hs 0 ((hs.length:Int)-wr)=bits T:=t3
 exact⟨k,T,h1,t1,t2,t4,by rw [h3,t3]⟩
theorem Played.row {k:Nat} (hk:k<hs.length) {T:List Int} (hT:T.Sublist hs) {h:Int} (hh:h∈hon):ln hs nd wr sz h (R h) (W h) (hs.getD k 0,bits T,())=
  if h∈T then(R h).getD k [] else yA wr sz (nd-1) (kq (bits T) ((W h).getD k []) (bA h 0 hs)) (kr (bits T) ((W h).getD k []) (bA h 0 hs)):=by
 unfold ln Z9
 rw [uQ P.tk.ho hk]
 have hb:((bits T)/2^h.toNat)%2=1↔h∈T:=by
  rw [u6 (iZ T),f7]
  constructor
  ·rintro⟨a,a1,a2⟩
   have h1:=P.tk.hs12 a (hT.subset a1)
   have h2:=P.bd hh
   have:a=h:=by omega
   rw [←this];exact a1
  ·intro h;exact⟨_,h,rfl⟩
 by_cases e:h∈T
 ·rw [if_pos e,if_pos (hb.2 e)]
 ·rw [if_neg e,if_neg (fun g=>e (hb.1 g))]
theorem Played.dealer {v:Int×Int×Unit} (hv:v∈ac hs nd wr sz st ph l):∃ψ:Nat→List UInt8,∀b,b<sz.toNat→Go.Proofs.YtogipicegdbhdaaDoor.S72.sz (ψ b)≤(nd-1).toNat∧
  ∀h∈hon,(ln hs nd wr sz h (R h) (W h) v).length≠0→((ln hs nd wr sz h (R h) (W h) v).getD 0 []).getD b 0=aB (pt h) (ψ b):=by
 obtain⟨k,T,hk,hT,hl,hc,rfl⟩:=P.verdict hv
 refine⟨fun b=>Qi (x7 hon T nd) (qs R hon T nd k b) (x7 hon T nd).length,fun b hb=>⟨?_,fun h hh h0=> ?_⟩⟩
 ·have:=Hk (P.agr hk hT hl hc hb) _ (Nat.le_refl _)
  rw [P.ptsLen hT hl] at this ⊢
  exact this
 ·rw [P.row hk hT hh] at h0 ⊢
  by_cases e:h∈T
  ·rw [if_pos e] at h0 ⊢
   exact P.mine hk hT hl hc hb hh e
  ·rw [if_neg e] at h0 ⊢
   refine P.decoded hk hT hl hc hh ?_ hb
   refine Classical.byContradiction fun g=>h0 ?_
   rw [yA,if_neg g];rfl
end
end
section
def D3 (p:List UInt8) (L:List (List UInt8)):List UInt8:=L.foldl (fun p q=>cC p (0::q)) p
theorem sb:∀(L:List (List UInt8)) (p:List UInt8),aB 0 (D3 p L)=aB 0 p
 |[],_=>rfl
 |q::L,p=>by
  show aB 0 (D3 (cC p (0::q)) L)=_
  rw [sb L,cz]
  show aB 0 p^^^(aI _ 0^^^0)=_
  rw [bN];simp
theorem F9 (q:List UInt8):sz (0::q)≤sz q+1:=py fun i hi=>by
 cases i with
 |zero=>rfl
 |succ i=>exact ed q i (by omega)
theorem Rj (a b:List UInt8) (n:Nat) (ha:sz a≤n) (hb:sz b≤n):sz (cC a b)≤n:=py fun i hi=>by
 rw [ni,ed a i (by omega),ed b i (by omega)];rfl
theorem A5 {n:Nat}:∀(L:List (List UInt8)) (p:List UInt8),sz p≤n→(∀q∈L,sz q+1≤n)→sz (D3 p L)≤n
 |[],_,h,_=>h
 |q::L,p,h,hq=>A5 L _ (Rj _ _ _ h (Nat.le_trans (F9 q) (hq q List.mem_cons_self))) fun x hx=>hq x (List.mem_cons_of_mem _ hx)
theorem vQ {h:Int} {b N:Nat} (hb:b<N):∀(rows:List eX) (L:List (List UInt8)) (s p:List UInt8),s.length=N→s.getD b 0=aB (pt h) p→rows.length=L.length→(∀r∈rows,(r.getD 0 []).length=N)→
  (∀i:Nat,i<rows.length→((rows.getD i []).getD 0 []).getD b 0=aB (pt h) (L.getD i []))→(lF h s rows).length=N∧(lF h s rows).getD b 0=aB (pt h) (D3 p L)
 |[], [],s,p,hs,hp,_,_,_=>⟨hs,hp⟩
 |[],_::_,_,_,_,_,hl,_,_=>by cases hl
 |_::_, [],_,_,_,_,hl,_,_=>by cases hl
 | r::rows,q::L,s,p,hs,hp,hl,hr,hq=>by
  have h1:(r.getD 0 []).length=N:=hr r List.mem_cons_self
  have h2:(r.getD 0 []).getD b 0=aB (pt h) q:=hq 0 (by simp)
  refine vQ hb rows L (cU s (cF (pt h) (r.getD 0 []))) (cC p (0::q)) (by rw [cM,bw];omega) ?_ (by simpa using hl) (fun x hx=>hr x (List.mem_cons_of_mem _ hx)) fun i hi=> ?_
  ·rw [ij (by rw [bw];omega) (by omega),kM (by omega),hp,h2,cz]
   show _=_^^^(aI (aB (pt h) q) (pt h)^^^0)
   rw [a9 (aB _ _)]
   simp
  ·have:=hq (i+1) (by rw [List.length_cons];omega)
   simpa using this
section
variable {hs:List Int} {nd wr sz st ph:Int} {hon:List Int} {R:Int→List eX} {W:Int→List (List eX)} {l:List RP} (P:Played hs nd wr sz st ph hon R W l)
include P
theorem Played.rowOk {v:Int×Int×Unit} {h:Int} (hh:h∈hon):rm nd sz (ln hs nd wr sz h (R h) (W h) v):=v7 P.nd2.1 (by have:=P.sz1;omega) (P.ok h hh)
theorem Played.ends {h:Int} (hh:h∈hon) {sh:List UInt8} (hs':(sh.length:Int)=sz):jM hs nd wr sz st ph h sh (R h) (W h) l=(if mq (rz hs nd wr sz st ph h (R h) (W h) l) then 0 else 17):=by
 unfold jM
 rw [if_pos P.tk.e]
 by_cases e:mq (rz hs nd wr sz st ph h (R h) (W h) l)
 ·rw [if_pos e,if_pos e]
  refine Fi P.nd2 (by have:=P.sz1;omega) (P.bd hh) hs' (fun r hr=> ?_) e
  obtain⟨v,_,rfl⟩:=List.mem_map.1 hr
  exact P.rowOk hh
 ·rw [if_neg e,if_neg e]
theorem Played.shares {key:List UInt8} (hkl:(key.length:Int)=sz) {sh:Int→List UInt8} (hsl:∀h∈hon,((sh h).length:Int)=sz)
  (hp:∀b,b<key.length→∃p:List UInt8,Go.Proofs.YtogipicegdbhdaaDoor.S72.sz p≤nd.toNat∧aB 0 p=key.getD b 0∧∀h∈hon,(sh h).getD b 0=aB (pt h) p):
  (∀h∈hon,jM hs nd wr sz st ph h (sh h) (R h) (W h) l=0→(Bq hs nd wr sz st ph h (sh h) (R h) (W h) l).length=key.length)∧
  ∀b,b<key.length→∃p:List UInt8,Go.Proofs.YtogipicegdbhdaaDoor.S72.sz p≤nd.toNat∧aB 0 p=key.getD b 0∧∀h∈hon,jM hs nd wr sz st ph h (sh h) (R h) (W h) l=0→(Bq hs nd wr sz st ph h (sh h) (R h) (W h) l).getD b 0=aB (pt h) p:=by
 have hz:=P.sz1
 have hn:=P.nd2
 have rws:∀h∈hon,jM hs nd wr sz st ph h (sh h) (R h) (W h) l=0→∀v∈ac hs nd wr sz st ph l,(ln hs nd wr sz h (R h) (W h) v).length≠0:=fun h hh e v hv=>by
  rw [P.ends hh (hsl h hh)] at e
  split at e
  ·rename_i g
   have:=of_decide_eq_true (List.all_eq_true.1 g _ (List.mem_map.2 ⟨v,hv,rfl⟩))
   omega
  ·cases e
 have key2:∀b,b<key.length→∃L:List (List UInt8),L.length=(ac hs nd wr sz st ph l).length∧(∀q∈L,Go.Proofs.YtogipicegdbhdaaDoor.S72.sz q+1≤nd.toNat)∧
   ∀h∈hon,jM hs nd wr sz st ph h (sh h) (R h) (W h) l=0→∀i:Nat,i<(ac hs nd wr sz st ph l).length→(((rz hs nd wr sz st ph h (R h) (W h) l).getD i []).getD 0 []).getD b 0=aB (pt h) (L.getD i []):=fun b hb=>by
  have ch:∀D:List (Int×Int×Unit),(∀v∈D,v∈ac hs nd wr sz st ph l)→∃L:List (List UInt8),L.length=D.length∧(∀q∈L,Go.Proofs.YtogipicegdbhdaaDoor.S72.sz q+1≤nd.toNat)∧
    ∀h∈hon,jM hs nd wr sz st ph h (sh h) (R h) (W h) l=0→∀i:Nat,i<D.length→(((D.map (ln hs nd wr sz h (R h) (W h))).getD i []).getD 0 []).getD b 0=aB (pt h) (L.getD i []):=fun D=>by
   induction D with
   |nil=>intro _;exact⟨[],rfl,(fun _ h=>by cases h),fun _ _ _ i hi=>absurd hi (Nat.not_lt_zero i)⟩
   | cons v D ih=>
    intro hD
    obtain⟨L,l1,l2,l3⟩:=ih fun x hx=>hD x (List.mem_cons_of_mem _ hx)
    obtain⟨ψ,hψ⟩:=P.dealer (hD v List.mem_cons_self)
    obtain⟨s1,s2⟩:=hψ b (by omega)
    refine⟨ψ b::L,by rw [List.length_cons,List.length_cons,l1],fun q hq=> ?_,fun h hh e i hi=> ?_⟩
    ·rcases List.mem_cons.1 hq with rfl|hq
     ·omega
     ·exact l2 q hq
    ·cases i with
     |zero=>exact s2 h hh (rws h hh e v (hD v List.mem_cons_self))
     |succ i=>
      have:=l3 h hh e i (by rw [List.length_cons] at hi;omega)
      simpa using this
  exact ch _ fun _ h=>h
 have rl:∀h∈hon,jM hs nd wr sz st ph h (sh h) (R h) (W h) l=0→∀r∈rz hs nd wr sz st ph h (R h) (W h) l,(r.getD 0 []).length=key.length:=fun h hh e r hr=>by
  obtain⟨v,hv,rfl⟩:=List.mem_map.1 hr
  obtain⟨r1,r2,_⟩:=qF hn hz (P.rowOk (v:=v) hh) (rws h hh e v hv)
  have:=r2 _ (bc [] _ 0 (by omega))
  omega
 have upd:∀b,b<key.length→∀L:List (List UInt8),L.length=(ac hs nd wr sz st ph l).length→∀p:List UInt8,∀h∈hon,(sh h).getD b 0=aB (pt h) p→jM hs nd wr sz st ph h (sh h) (R h) (W h) l=0→
   (∀i:Nat,i<(ac hs nd wr sz st ph l).length→(((rz hs nd wr sz st ph h (R h) (W h) l).getD i []).getD 0 []).getD b 0=aB (pt h) (L.getD i []))→
   (Bq hs nd wr sz st ph h (sh h) (R h) (W h) l).length=key.length∧(Bq hs nd wr sz st ph h (sh h) (R h) (W h) l).getD b 0=aB (pt h) (D3 p L):=fun b hb L hL p h hh hp e hq=>by
  have hfl:(rz hs nd wr sz st ph h (R h) (W h) l).length=(ac hs nd wr sz st ph l).length:=List.length_map ..
  unfold Bq
  rw [if_pos e]
  exact vQ hb _ L _ p (by have:=hsl h hh;omega) hp (by rw [hfl,hL]) (rl h hh e) fun i hi=>hq i (by omega)
 refine⟨fun h hh e=> ?_,fun b hb=> ?_⟩
 ·have hk0:0<key.length:=by omega
  obtain⟨L,l1,_,l3⟩:=key2 0 hk0
  obtain⟨p,_,_,p3⟩:=hp 0 hk0
  exact(upd 0 hk0 L l1 p h hh (p3 h hh) e (l3 h hh e)).1
 ·obtain⟨L,l1,l2,l3⟩:=key2 b hb
  obtain⟨p,p1,p2,p3⟩:=hp b hb
  exact⟨D3 p L,A5 L p p1 l2,by rw [sb,p2],fun h hh e=>(upd b hb L l1 p h hh (p3 h hh) e (l3 h hh e)).2⟩
end
end
section
section
variable {hs:List Int} {nd wr sz st ph:Int} {hon:List Int} {R:Int→List eX} {W:Int→List (List eX)} {l:List RP} (P:Played hs nd wr sz st ph hon R W l)
include P
end
end
abbrev ew:=Int×(List UInt8×(List eX×(List (List eX)×Unit)))
def mE (hs:List Int) (nd sz st ph:Int) (s:ew) (x:Ml×Int):ew:=
 (s.1,s.2.1,dH hs nd sz st ph s.1 s.2.2.1 x.1.1 x.1.2.1 x.1.2.2.1 x.1.2.2.2.1 x.1.2.2.2.2.1 x.2,dR hs sz st ph s.1 s.2.2.2.1 x.1.1 x.1.2.1 x.1.2.2.1 x.1.2.2.2.1 x.1.2.2.2.2.1 x.2,())
def jV (hs:List Int) (nd sz st ph:Int) (es:List (Int×ew)) (x:Ml×Int):List (Int×ew):=
 match aW es x.1.2.2.1 with
 |some s=>cJ es x.1.2.2.1 (mE hs nd sz st ph s x)
 |none=>es
def aQ (hs:List Int) (nd sz st ph:Int) (es:List (Int×ew)) (D:List (Ml×Int)):List (Int×ew):=D.foldl (jV hs nd sz st ph) es
theorem dJ {α:Type} (n m:Int) (x:α):∀es:List (Int×α),aW (cJ es n x) m=if n=m then some x else aW es m
 |[]=>by
  simp only [cJ,aW]
 | (a,y)::es=>by
  unfold cJ
  split
  ·rename_i h
   subst h
   simp only [aW]
   split<;>rfl
  ·rename_i h
   simp only [aW]
   rw [dJ n m x es]
   by_cases e:a=m
   ·rw [if_pos e,if_pos e,if_neg (by omega)]
   ·rw [if_neg e,if_neg e]
def kz (h:Int) (D:List (Ml×Int)):List (Ml×Int):=D.filter fun x=>decide (x.1.2.2.1=h)
theorem eo (hs:List Int) (nd sz st ph h:Int):∀(D:List (Ml×Int)) (es:List (Int×ew)),aW (aQ hs nd sz st ph es D) h=(aW es h).map fun s=>(kz h D).foldl (mE hs nd sz st ph) s
 |[],es=>by
  show aW es h=_
  cases aW es h<;>rfl
 | x::D,es=>by
  show aW (aQ hs nd sz st ph (jV hs nd sz st ph es x) D) h=_
  rw [eo hs nd sz st ph h D]
  unfold jV kz
  by_cases e:x.1.2.2.1=h
  ·rw [List.filter_cons_of_pos (by exact decide_eq_true e)]
   subst e
   cases hm:aW es x.1.2.2.1 with
   |none=>rw [hm];rfl
   |some s=>rw [dJ,if_pos rfl];rfl
  ·rw [List.filter_cons_of_neg (by simpa using e)]
   cases hm:aW es x.1.2.2.1 with
   |none=>rfl
   |some s=>dsimp only;rw [dJ,if_neg e]
theorem pE {α:Type} (l:List α) (i k:Nat) (a d:α):(l.set i a).getD k d=if i=k∧k<l.length then a else l.getD k d:=by
 rw [List.getD_eq_getElem?_getD,List.getD_eq_getElem?_getD,List.getElem?_set]
 by_cases e:i=k
 ·subst e
  by_cases h:i<l.length
  ·simp [h]
  ·simp [h]
 ·rw [if_neg e,if_neg (fun g=>e g.1)]
structure G1 (hs hon:List Int) (nd sz:Int) (rt:Nat→Int→eX) (h:Int) (sh:List UInt8) (s:ew):Prop where
 me:s.1=h
 shr:s.2.1=sh
 ok:SOk hs nd sz s.2.2.1 s.2.2.2.1
 rows:∀k:Nat,k<hs.length→hs.getD k 0∈hon→s.2.2.1.getD k []= []∨s.2.2.1.getD k []=rt k h
 vals:∀k j:Nat,k<hs.length→j<hs.length→hs.getD j 0∈hon→(s.2.2.2.1.getD k []).getD j []= []
structure G2 (hs hon:List Int) (nd sz:Int) (R0:Int→List eX) (h:Int) (sh:List UInt8) (s:ew):Prop where
 me:s.1=h
 shr:s.2.1=sh
 ok:SOk hs nd sz s.2.2.1 s.2.2.2.1
 rows:s.2.2.1=R0 h
 vals:∀k j:Nat,k<hs.length→j<hs.length→hs.getD j 0∈hon→hs.getD j 0≠h→
  (s.2.2.2.1.getD k []).getD j []= []∨(((R0 (hs.getD j 0)).getD k []).length≠0∧(s.2.2.2.1.getD k []).getD j []= [cr ((R0 (hs.getD j 0)).getD k []) h])
theorem pJ {hs:List Int} {sz st ph me:Int} {W:List (List eX)} {mk f t d:Int} {ss:eX} {tick:Int} (k j:Nat):
  ((dR hs sz st ph me W mk f t d ss tick).getD k []).getD j []=(W.getD k []).getD j []∨(M6 hs sz st ph me W mk f t d ss tick∧(aZ d hs 0).toNat=k∧(aZ f hs 0).toNat=j∧((dR hs sz st ph me W mk f t d ss tick).getD k []).getD j []=ss):=by
 unfold dR
 split
 ·rename_i g
  rw [pE]
  split
  ·rename_i h1
   obtain⟨h1,h2⟩:=h1
   subst h1
   rw [pE]
   split
   ·rename_i h3
    exact .inr ⟨g,rfl,h3.1,rfl⟩
   ·exact .inl rfl
  ·exact .inl rfl
 ·exact .inl rfl
theorem Al {hs:List Int} {nd sz st ph me:Int} {R:List eX} {mk f t d:Int} {ss:eX} {tick:Int} (k:Nat):
  (dH hs nd sz st ph me R mk f t d ss tick).getD k []=R.getD k []∨(M7 hs nd sz st ph me R mk f t d ss tick∧(aZ d hs 0).toNat=k∧(dH hs nd sz st ph me R mk f t d ss tick).getD k []=ss):=by
 unfold dH
 split
 ·rename_i g
  rw [pE]
  split
  ·rename_i h1
   exact .inr ⟨g,h1.1,rfl⟩
  ·exact .inl rfl
 ·exact .inl rfl
theorem pK {hs:List Int} {st me f t d tick:Int} (h:¬cw hs st me f t d tick):f∈hs∧d∈hs∧hs.getD (aZ f hs 0).toNat 0=f∧hs.getD (aZ d hs 0).toNat 0=d∧t=me∧f≠me∧st≤tick:=by
 unfold cw at h
 have h1:¬aZ f hs 0<0:=fun g=>h (.inr (.inr (.inl g)))
 have h2:¬aZ d hs 0<0:=fun g=>h (.inr (.inr (.inr (.inl g))))
 have f1:=(du f hs 0 (by omega)).1 (by omega)
 have d1:=(du d hs 0 (by omega)).1 (by omega)
 refine⟨f1,d1,(iq f1).2.2,(iq d1).2.2,?_,?_,?_⟩<;>omega
end Go.Proofs.YtogipicegdbhdaaDoor.S72d

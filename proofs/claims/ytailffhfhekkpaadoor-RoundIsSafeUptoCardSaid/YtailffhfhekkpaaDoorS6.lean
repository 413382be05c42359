/- Texts of this claim. -/
import Derived.Test.YtailffhfhekkpaaDoorS4
import Derived.Test.YtailffhfhekkpaaDoorS1
import Derived.Test.YtailffhfhekkpaaDoorS5
import Derived.Test.YtailffhfhekkpaaDoorS3
set_option linter.unusedVariables false
set_option linter.unusedSimpArgs false
set_option linter.unusedSectionVars false
namespace Go.Proofs.YtailffhfhekkpaaDoor.S62c
set_option maxHeartbeats 20000000
open Go Go.Proofs.YtailffhfhekkpaaDoor.Vc Go.Proofs Go.Proofs.YtailffhfhekkpaaDoor.S62
set_option maxRecDepth 100000
theorem tr (x:Int):∀(l:List Int) (k:Nat),(a5 x k l).map (·.2)=l.filter fun h=>decide (h≠x)
 |[],k=>rfl
 |a::l,k=>by
  rw [a5]
  by_cases h:a=x
  ·rw [if_pos h,tr x l (k+1),List.filter_cons_of_neg (by simp [h])]
  ·rw [if_neg h,List.map_cons,tr x l (k+1),List.filter_cons_of_pos (by simp [h])]
def psB (hs:List Int) (me:Int) (r:List (List UInt8)) (vk:List (List (List UInt8))) (j:Nat):Prop:=hs.getD j 0=me∨(0<(vk.getD j []).length∧(vk.getD j []).getD 0 []=dK r (hs.getD j 0))
instance (hs:List Int) (me:Int) (r:List (List UInt8)) (vk:List (List (List UInt8))) (j:Nat):Decidable (psB hs me r vk j):=by unfold psB;infer_instance
theorem Am {s h:Int} (b:Nat):(jY s h).toNat.testBit b=(s.toNat.testBit b||decide (h.toNat=b)):=by
 unfold jY
 rw [Int.toNat_natCast,Int.one_mul,mD,Nat.testBit_or]
 congr 1
 rw [Nat.testBit_two_pow]
theorem pW (vk:List (List (List UInt8))) (r:List (List UInt8)) (b:Nat):∀(l:List (Int×Int)) (a:Int),(od vk r l a).toNat.testBit b=true↔a.toNat.testBit b=true∨∃p∈l,(0<(vk.getD p.1.toNat []).length∧(vk.getD p.1.toNat []).getD 0 []=dK r p.2)∧p.2.toNat=b
 |[],a=>⟨.inl,fun h=>h.resolve_right fun⟨_,hp,_⟩=>by cases hp⟩
 | p::l,a=>by
  rw [od,List.foldl_cons]
  have ih:=pW vk r b l
  unfold od at ih
  rw [ih]
  by_cases h:0<(vk.getD p.1.toNat []).length∧(vk.getD p.1.toNat []).getD 0 []=dK r p.2
  ·rw [if_pos h,Am,Bool.or_eq_true,decide_eq_true_iff]
   constructor
   ·rintro((g|g)|⟨q,g1,g2⟩)
    ·exact .inl g
    ·exact .inr ⟨p,by simp,h,g⟩
    ·exact .inr ⟨q,by simp [g1],g2⟩
   ·rintro(g|⟨q,g1,g2,g3⟩)
    ·exact .inl (.inl g)
    ·rcases List.mem_cons.1 g1 with rfl|g1
     ·exact .inl (.inr g3)
     ·exact .inr ⟨q,g1,g2,g3⟩
  ·rw [if_neg h]
   constructor
   ·rintro(g|⟨q,g1,g2⟩)
    ·exact .inl g
    ·exact .inr ⟨q,by simp [g1],g2⟩
   ·rintro(g|⟨q,g1,g2,g3⟩)
    ·exact .inl g
    ·rcases List.mem_cons.1 g1 with rfl|g1
     ·exact absurd g2 h
     ·exact .inr ⟨q,g1,g2,g3⟩
theorem qM {x:Int}:∀(l:List Int) (k i:Nat),i<l.length→l.getD i 0≠x→(((k+i:Nat):Int),l.getD i 0)∈a5 x k l
 |[],k,i,h,_=>by simp at h
 |a::l,k,0,h,hn=>by
  rw [a5,if_neg (by simpa using hn)]
  exact List.mem_cons_self
 |a::l,k,i+1,h,hn=>by
  have:=qM l (k+1) i (by simpa using h) (by simpa using hn)
  rw [show k+1+i=k+(i+1) by omega] at this
  rw [a5]
  split
  ·exact this
  ·exact List.mem_cons_of_mem _ this
noncomputable def Yh (hs:List Int) (nd wr sz me:Int) (rows:List (List (List UInt8))) (vals:List (List (List (List UInt8)))) (vd set:Int):List (List UInt8):=
 if(set/2^me.toNat)%2=1 then rows.getD (aj vd hs 0).toNat [] else yA wr sz (nd-1) (jV set (vals.getD (aj vd hs 0).toNat []) (a5 me 0 hs)) (ja set (vals.getD (aj vd hs 0).toNat []) (a5 me 0 hs))
theorem Nk (xs:List UInt8) (vs:List (List UInt8)) (m w:Int) (k a:Nat):(Sj xs vs m w k).getD a 0=(Jb xs vs m w k).1.getD a 0:=by
 unfold Sj
 rw [List.getD_eq_getElem?_getD,List.getD_eq_getElem?_getD,List.getElem?_append]
 split
 ·rfl
 ·rw [List.getElem?_eq_none (by omega:(Jb xs vs m w k).1.length≤a),List.getElem?_replicate]
  split<;>rfl
open Go Go.Proofs.YtailffhfhekkpaaDoor.Vc Go.Proofs
set_option linter.unusedVariables false
open Go.Proofs.YtailffhfhekkpaaDoor.S62
theorem Jj (es:Ps) (k:Int):∀(l:List Int) (set more:Int),0≤set→set<4096→(∀h∈l,0≤h∧h<12)→cl es k l set more<4096
 |[],set,more,h0,h1,_=>by
  rw [cl]
  split<;>omega
 | a::l,set,more,h0,h1,hl=>by
  have ha:=hl a (by simp)
  have hn:=t8 h0 h1 ha.1 ha.2
  have i1:=Jj es k l (jY set a) (more-1) hn.1 hn.2 fun h hh=>hl h (by simp [hh])
  have i2:=Jj es k l set more h0 h1 fun h hh=>hl h (by simp [hh])
  rw [cl]
  split
  ·exact h1
  ·split
   ·split
    ·exact i1
    ·exact i2
   ·exact i2
theorem Et {hs:List Int} {wr:Int} {es:Ps} {v:Int×Int×Unit} (hb:∀h∈hs,0≤h∧h<12):∀k,v∈nv hs wr es k→0≤v.2.1∧v.2.1<4096
 |0,h=>by simp [nv] at h
 | k+1,h=>by
  rw [nv] at h
  rcases List.mem_append.1 h with h|h
  ·exact Et hb k h
  ·unfold Lk at h
   split at h
   ·rename_i h0
    simp only [List.mem_singleton] at h
    subst h
    exact⟨h0,Jj es k _ 0 _ (by omega) (by omega) fun h hh=>hb h (List.mem_of_mem_drop hh)⟩
   ·cases h
theorem Sb {hs:List Int} {nd wr sz st ph:Int} {l:List RP} {v:Int×Int×Unit} (h:v∈aS hs nd wr sz st ph l):0≤v.2.1∧v.2.1<4096:=by
 unfold aS at h
 split at h
 ·rename_i h0
  exact Et (E7 h0).hs12 _ h
 ·cases h
noncomputable def lU (hs:List Int) (nd wr sz me:Int) (rows:List (List (List UInt8))) (vals:List (List (List (List UInt8)))) (v:Int×Int×Unit):List (List UInt8):=Yh hs nd wr sz me rows vals v.1 v.2.1
noncomputable def rr (hs:List Int) (nd wr sz st ph me:Int) (rows:List (List (List UInt8))) (vals:List (List (List (List UInt8)))) (l:List RP):List (List (List UInt8)):=(aS hs nd wr sz st ph l).map (lU hs nd wr sz me rows vals)
def mj (l:List (List (List UInt8))):Prop:=l.all (fun r=>decide (0<r.length))=true
instance (l:List (List (List UInt8))):Decidable (mj l):=by unfold mj;infer_instance
theorem vC {l:List (List (List UInt8))} {r:List (List UInt8)} (h:r∈l) (hr:r.length=0):¬mj l:=fun g=>by have:=of_decide_eq_true (List.all_eq_true.1 g _ h);omega
theorem tG {l:List (List (List UInt8))} {r:List (List UInt8)} (h:mj l) (hr:0<r.length):mj (l++ [r]):=by
 unfold mj at*
 rw [List.all_append,h,Bool.true_and,List.all_cons,List.all_nil,Bool.and_true];exact decide_eq_true hr
noncomputable def j8 (hs:List Int) (nd wr sz st ph me:Int) (sh:List UInt8) (rows:List (List (List UInt8))) (vals:List (List (List (List UInt8)))) (l:List RP):Int:=
 if fZ hs nd wr sz st ph=0 then(if mj (rr hs nd wr sz st ph me rows vals l) then gZ me sh (rr hs nd wr sz st ph me rows vals l) else 17) else fZ hs nd wr sz st ph
noncomputable def M6 (hs:List Int) (nd wr sz st ph me:Int) (sh:List UInt8) (rows:List (List (List UInt8))) (vals:List (List (List (List UInt8)))) (l:List RP):Int:=
 if j8 hs nd wr sz st ph me sh rows vals l=0 then me else 0
noncomputable def xy (hs:List Int) (nd wr sz st ph me:Int) (sh:List UInt8) (rows:List (List (List UInt8))) (vals:List (List (List (List UInt8)))) (l:List RP):List UInt8:=
 if j8 hs nd wr sz st ph me sh rows vals l=0 then kq me sh (rr hs nd wr sz st ph me rows vals l) else []
theorem uX {hs:List Int} {nd wr sz st ph me:Int} {sh:List UInt8} {rows:List (List (List UInt8))} {vals:List (List (List (List UInt8)))} {l:List RP} (h:j8 hs nd wr sz st ph me sh rows vals l≠0):M6 hs nd wr sz st ph me sh rows vals l=0∧xy hs nd wr sz st ph me sh rows vals l= []:=⟨if_neg h,if_neg h⟩
theorem R1 {hs:List Int} {nd wr sz st ph me:Int} {sh:List UInt8} {rows:List (List (List UInt8))} {vals:List (List (List (List UInt8)))} {l:List RP} (h:j8 hs nd wr sz st ph me sh rows vals l=gZ me sh (rr hs nd wr sz st ph me rows vals l)):
  M6 hs nd wr sz st ph me sh rows vals l=rj me sh (rr hs nd wr sz st ph me rows vals l)∧xy hs nd wr sz st ph me sh rows vals l=mw me sh (rr hs nd wr sz st ph me rows vals l):=by
 unfold M6 xy rj mw
 rw [h]
 exact⟨rfl,rfl⟩
def qN (nd sz:Int) (r:List (List UInt8)):Prop:=r.length=0∨((r.length:Int)=nd-1∧∀s∈r,(s.length:Int)=sz)
theorem t6 {nd sz:Int} {rows:List (List (List UInt8))} (h:∀r∈rows,qN nd sz r) (k:Nat):qN nd sz (rows.getD k []):=by
 by_cases g:k<rows.length
 ·exact h _ (bE [] rows k g)
 ·rw [List.getD_eq_getElem?_getD,List.getElem?_eq_none (by omega)];exact .inl rfl
theorem vj {hs:List Int} {nd wr sz me vd set:Int} {rows:List (List (List UInt8))} {vals:List (List (List (List UInt8)))} (h1:2≤nd) (h2:0≤sz) (h:∀r∈rows,qN nd sz r):qN nd sz (Yh hs nd wr sz me rows vals vd set):=by
 unfold Yh
 split
 ·exact t6 h _
 ·unfold yA
  split
  ·refine .inr ⟨by rw [List.length_map,List.length_range];omega,fun s hs=> ?_⟩
   obtain⟨a,_,rfl⟩:=List.mem_map.1 hs
   rw [Bo];omega
  ·exact .inl rfl
theorem yq {nd sz:Int} {r:List (List UInt8)} (h:qN nd sz r) (hn:nd≤1000):r.length≤1048576:=by
 rcases h with h|h<;>omega
theorem P0 {nd sz me:Int} {sh:List UInt8} {l:List (List (List UInt8))} (h1:2≤nd∧nd≤12) (h2:0≤sz∧sz≤4096) (hm:0≤me∧me<12) (hs:(sh.length:Int)=sz) (hl:∀r∈l,qN nd sz r) (hn:mj l):gZ me sh l=0:=by
 unfold gZ
 rw [if_pos (show gG me from hm),if_pos (by omega),if_pos]
 refine List.all_eq_true.2 fun r hr=> ?_
 have h0:0<r.length:=of_decide_eq_true (List.all_eq_true.1 hn r hr)
 rcases hl r hr with g|⟨g1,g2⟩
 ·omega
 have hz:n0 r=sh.length:=by
  have:=g2 _ (bE [] r 0 h0)
  unfold n0
  omega
 refine my ?_ hz
 rw [kV (by omega) (by omega)]
 refine List.all_eq_true.2 fun s hs=> ?_
 have:=g2 s hs
 rw [decide_eq_true (by omega:s.length=n0 r),decide_eq_true (by omega:s.length≤4096)];rfl
noncomputable def Qu:List V→Option (Prop×V×List Blk)
 |[.agg [.sl false (.int .i64) hs,.int .i64 nd,.int .i64 wr,.int .i64 sz,.int .i64 st,.int .i64 ph],.agg [.int .i64 me,.str sh,.sl false (.sl .str) rows,.sl false (.sl (.sl .str)) vals],.sl false (.cons (.int .i64) (.cons (.sl (.int .i64)) .nil)) l]=>some (hs.length≤2000000∧l.length≤20∧(∀p∈l,p.2.1.length≤1048576)∧rows.length=hs.length∧vals.length=hs.length∧(∀x∈vals,x.length=hs.length)∧(∀v∈vals,∀x∈v,0<x.length→((x.getD 0 []).length:Int)=sz)∧(∀r∈rows,qN nd sz r)∧0≤me∧me<12∧nd≤7,.tup [.agg [.int .i64 (M6 hs nd wr sz st ph me sh rows vals l),.str (xy hs nd wr sz st ph me sh rows vals l)],.int .i64 (j8 hs nd wr sz st ph me sh rows vals l)], [])
 |_=>none
theorem aBZ (hs:List Int) (nd wr sz st ph me:Int) (sh:List UInt8) (rows:List (List (List UInt8))) (vals:List (List (List (List UInt8)))) (l:List (Int×(List Int×Unit))):bH (En Uc tys G6 ct [1000002]) Tryd.f22 [.k,.k] Qu [Lc hs nd wr sz st ph,Pt me sh rows vals,.sl false fN l]:=by
 rintro⟨hp0,hp1,(hp2:(∀p∈l,p.2.1.length≤1048576)),hp3,hp4,(hp5:(∀x∈vals,x.length=hs.length)),(hp6:(∀v∈vals,∀x∈v,0<x.length→((x.getD 0 []).length:Int)=sz)),(hp7:(∀r∈rows,qN nd sz r)),hp8,hp9,hp10⟩
 refine⟨rfl,rfl,rfl,rfl,rfl,⟨om (hs.length≤2000000),om (l.length≤20),by assumption⟩,yn ((fZ hs nd wr sz st ph)≠0) (fun h0=> ?_) fun h0=> ?_⟩
 ·refine⟨cO,?_⟩
  have e:j8 hs nd wr sz st ph me sh rows vals l=fZ hs nd wr sz st ph:=by unfold j8;rw [if_neg h0]
  obtain⟨e1,e2⟩:=uX (sh:=sh) (show j8 hs nd wr sz st ph me sh rows vals l≠0 by rw [e];exact h0)
  rw [e1,e2,e]
  exact a6
 ·have hT:=E7 (nw h0)
  have hl12:=hT.l12
  have hsb:∀h∈hs,0≤h∧h<12:=hT.hs12
  obtain⟨⟨n1,n2⟩,⟨w1,w2⟩,⟨z1,z2⟩,_⟩:=hT.rg.1
  have hdl:=ui hs nd wr sz st ph l
  have hor:∀v,qN nd sz ((lU hs nd wr sz me rows vals) v):=fun v=>vj n1 (by omega) hp7
  have hml:∀k,(((aS hs nd wr sz st ph l).take k).map (lU hs nd wr sz me rows vals)).length≤hs.length:=fun k=>by rw [List.length_map,List.length_take];omega
  refine⟨4, [(3,.k),(4,.k),(6,.k),(10,.w (.sl .str)),(27,.o (.cons (.int .i64) (.cons (.int .i64) .nil))),(28,.k),(29,.k)],fun nM vs H=>∃(k:Nat),k≤(aS hs nd wr sz st ph l).length∧mj (((aS hs nd wr sz st ph l).take k).map (lU hs nd wr sz me rows vals))∧nM=(aS hs nd wr sz st ph l).length-k∧vs= [.p 0,.p 1,.p 2,.own (.sl .str) 4,.own (.cons (.int .i64) (.cons (.int .i64) .nil)) 3,.i (((aS hs nd wr sz st ph l).length:Nat):Int),.i k]∧H= [D9 hs nd wr sz st ph,Jn me sh rows vals,.cells [.i 0,.str ([])],.r (.cons (.int .i64) (.cons (.int .i64) .nil)) (aS hs nd wr sz st ph l),.row false (.sl .str) (((aS hs nd wr sz st ph l).take k).map (lU hs nd wr sz me rows vals))],⟨rfl,(aS hs nd wr sz st ph l).length,0,by omega,rfl,by omega,rfl,rfl⟩,?_⟩
  rintro nM vs H ⟨k,hc1_0,hc1_1,rfl,rfl,rfl⟩
  refine yn ((k:Int)<(((aS hs nd wr sz st ph l).length:Nat):Int)) (fun h1=> ?_) fun h1=> ?_
  ·have hkl:k<(aS hs nd wr sz st ph l).length:=by omega
   have hvm:=bE (0,0,()) (aS hs nd wr sz st ph l) k hkl
   obtain⟨b0,b1⟩:=Sb hvm
   obtain⟨po0,po1,po2⟩:=eO (Ng hvm)
   have hst:=cL (0,0,()) (lU hs nd wr sz me rows vals) (aS hs nd wr sz st ph l) k hkl
   have hmk:=hml k
   have hrl:=yq (hor ((aS hs nd wr sz st ph l).getD k (0,0,()))) (by omega)
   refine⟨ix k (aS hs nd wr sz st ph l).length,cO,rfl,om (hs.length≤2000000),ix (aj (((aS hs nd wr sz st ph l).getD k (0,0,())).1) hs 0) rows.length,⟨om ((0:Int)≤me),om (me≤(64:Int))⟩,.inr ⟨rfl,?_⟩⟩
   refine yn (((((((aS hs nd wr sz st ph l).getD k (0,0,())).2).1)/2^me.toNat)%2)=0) (fun h2=> ?_) fun h2=> ?_
   ·have hfr:(lU hs nd wr sz me rows vals) ((aS hs nd wr sz st ph l).getD k (0,0,()))=yA wr sz (nd-1) (jV ((aS hs nd wr sz st ph l).getD k (0,0,())).2.1 (vals.getD (aj ((aS hs nd wr sz st ph l).getD k (0,0,())).1 hs 0).toNat []) (a5 me 0 hs)) (ja ((aS hs nd wr sz st ph l).getD k (0,0,())).2.1 (vals.getD (aj ((aS hs nd wr sz st ph l).getD k (0,0,())).1 hs 0).toNat []) (a5 me 0 hs)):=if_neg (by omega)
    have hrl2:=hrl
    rw [hfr] at hrl2
    refine⟨rfl,rfl,rfl,rfl,rfl,rfl,rfl,rfl,⟨om (hs.length≤12),hsb,om (vals.length=hs.length),hp5,om (0≤wr),om (wr≤12),om (1≤sz),om (sz≤4096),om (0≤(aj (((aS hs nd wr sz st ph l).getD k (0,0,())).1) hs 0)),om ((aj (((aS hs nd wr sz st ph l).getD k (0,0,())).1) hs 0)<(hs.length:Int)),om (0≤((((aS hs nd wr sz st ph l).getD k (0,0,())).2).1)),om (((((aS hs nd wr sz st ph l).getD k (0,0,())).2).1)<4096),hp6,om (2≤nd),om (nd≤7)⟩,ny (¬(x9 wr sz (nd-1) (jV ((((aS hs nd wr sz st ph l).getD k (0,0,())).2).1) (vals.getD ((aj (((aS hs nd wr sz st ph l).getD k (0,0,())).1) hs 0)).toNat []) (a5 me 0 hs)) (ja ((((aS hs nd wr sz st ph l).getD k (0,0,())).2).1) (vals.getD ((aj (((aS hs nd wr sz st ph l).getD k (0,0,())).1) hs 0)).toNat []) (a5 me 0 hs)))) (fun h3=> ?_) fun h3=> ?_⟩
    ·refine yn ((((yA wr sz (nd-1) (jV ((((aS hs nd wr sz st ph l).getD k (0,0,())).2).1) (vals.getD ((aj (((aS hs nd wr sz st ph l).getD k (0,0,())).1) hs 0)).toNat []) (a5 me 0 hs)) (ja ((((aS hs nd wr sz st ph l).getD k (0,0,())).2).1) (vals.getD ((aj (((aS hs nd wr sz st ph l).getD k (0,0,())).1) hs 0)).toNat []) (a5 me 0 hs))).length:Nat):Int)=0) (fun h4=> ?_) fun h4=> ?_
     ·refine⟨cO,?_⟩
      have hr0:((lU hs nd wr sz me rows vals) ((aS hs nd wr sz st ph l).getD k (0,0,()))).length=0:=by rw [hfr];omega
      have e:j8 hs nd wr sz st ph me sh rows vals l=17:=by unfold j8;rw [if_pos (nw h0),if_neg (vC (show(lU hs nd wr sz me rows vals) ((aS hs nd wr sz st ph l).getD k (0,0,()))∈(rr hs nd wr sz st ph me rows vals l) from List.mem_map.2 ⟨_,hvm,rfl⟩) hr0)]
      obtain⟨e1,e2⟩:=uX (sh:=sh) (show j8 hs nd wr sz st ph me sh rows vals l≠0 by rw [e];decide)
      rw [e1,e2,e]
      exact a6
     ·have hrp:0<((lU hs nd wr sz me rows vals) ((aS hs nd wr sz st ph l).getD k (0,0,()))).length:=by rw [hfr];omega
      have hnx:mj (((aS hs nd wr sz st ph l).take (k+1)).map (lU hs nd wr sz me rows vals)):=by rw [hst];exact tG hc1_1 hrp
      refine⟨fY,l9 (((aS hs nd wr sz st ph l).take k).map (lU hs nd wr sz me rows vals)).length,ap (k+1),?_⟩
      exact⟨rfl,(aS hs nd wr sz st ph l).length-(k+1),by omega,k+1,by omega,hnx,rfl,rfl,by rw [hst,hfr];rfl⟩
    ·refine⟨cO,?_⟩
     have hr0:((lU hs nd wr sz me rows vals) ((aS hs nd wr sz st ph l).getD k (0,0,()))).length=0:=by rw [hfr];rw [yA,if_neg h3];rfl
     have e:j8 hs nd wr sz st ph me sh rows vals l=17:=by unfold j8;rw [if_pos (nw h0),if_neg (vC (show(lU hs nd wr sz me rows vals) ((aS hs nd wr sz st ph l).getD k (0,0,()))∈(rr hs nd wr sz st ph me rows vals l) from List.mem_map.2 ⟨_,hvm,rfl⟩) hr0)]
     obtain⟨e1,e2⟩:=uX (sh:=sh) (show j8 hs nd wr sz st ph me sh rows vals l≠0 by rw [e];decide)
     rw [e1,e2,e]
     exact a6
   ·have hfr:(lU hs nd wr sz me rows vals) ((aS hs nd wr sz st ph l).getD k (0,0,()))=rows.getD (aj ((aS hs nd wr sz st ph l).getD k (0,0,())).1 hs 0).toNat []:=if_pos (by omega)
    have hrl2:=hrl
    rw [hfr] at hrl2
    refine yn ((((rows.getD ((aj (((aS hs nd wr sz st ph l).getD k (0,0,())).1) hs 0).toNat) []).length:Nat):Int)=0) (fun h5=> ?_) fun h5=> ?_
    ·refine⟨cO,?_⟩
     have hr0:((lU hs nd wr sz me rows vals) ((aS hs nd wr sz st ph l).getD k (0,0,()))).length=0:=by rw [hfr];omega
     have e:j8 hs nd wr sz st ph me sh rows vals l=17:=by unfold j8;rw [if_pos (nw h0),if_neg (vC (show(lU hs nd wr sz me rows vals) ((aS hs nd wr sz st ph l).getD k (0,0,()))∈(rr hs nd wr sz st ph me rows vals l) from List.mem_map.2 ⟨_,hvm,rfl⟩) hr0)]
     obtain⟨e1,e2⟩:=uX (sh:=sh) (show j8 hs nd wr sz st ph me sh rows vals l≠0 by rw [e];decide)
     rw [e1,e2,e]
     exact a6
    ·have hrp:0<((lU hs nd wr sz me rows vals) ((aS hs nd wr sz st ph l).getD k (0,0,()))).length:=by rw [hfr];omega
     have hnx:mj (((aS hs nd wr sz st ph l).take (k+1)).map (lU hs nd wr sz me rows vals)):=by rw [hst];exact tG hc1_1 hrp
     refine⟨fY,l9 (((aS hs nd wr sz st ph l).take k).map (lU hs nd wr sz me rows vals)).length,ap (k+1),?_⟩
     exact⟨rfl,(aS hs nd wr sz st ph l).length-(k+1),by omega,k+1,by omega,hnx,rfl,rfl,by rw [hst,hfr];rfl⟩
  ·have hmk:=hml k
   refine⟨rfl,⟨os ((((aS hs nd wr sz st ph l).take k).map (lU hs nd wr sz me rows vals)).length≤1048576),fun x hx=>by obtain⟨v,_,rfl⟩:=List.mem_map.1 hx;exact yq (hor v) (by omega)⟩,cO,cO,?_⟩
   have hk:k=(aS hs nd wr sz st ph l).length:=by omega
   have hfl:((aS hs nd wr sz st ph l).take k).map (lU hs nd wr sz me rows vals)=(rr hs nd wr sz st ph me rows vals l):=by rw [hk,List.take_length];rfl
   have e:j8 hs nd wr sz st ph me sh rows vals l=gZ me sh (rr hs nd wr sz st ph me rows vals l):=by unfold j8;rw [if_pos (nw h0),if_pos (hfl▸hc1_1)]
   obtain⟨e1,e2⟩:=R1 e
   rw [e1,e2,e,←hfl]
   exact a6
noncomputable def T9:List (Nat×bW):=(22,aW [.v yH,.v kr,.v (.sl fN)] Qu)::Uc
theorem aAf:Known Tryd.prog (En T9 tys G6 ct):=Known.frz0<|(aAi.frz [1000002]).addQ Tryd.func22 Tryd.call22 [.k,.k] fun ds _ _ _ h=>by unfold Qu at h;split at h;exact aBZ _ _ _ _ _ _ _ _ _ _ _;cases h
theorem Gu:∀m,m<12→∀a,a<m→∀b,b<m→wJ m a b<m*(m+1)/2∧wJ m a b=wJ m b a:=by decide+kernel
theorem uF {m z:Nat} {s:List UInt8} {a b:Nat} (ha:a<m) (hb:b<m):((mr m z s).getD a []).getD b []=(dn z (wJ m a b) s).take z:=by
 simp [mr,List.getD_eq_getElem?_getD,ha,hb]
theorem Mq {m z:Nat} {s:List UInt8} {l:Rw} (h:l∈mr m z s):∃a,a<m∧l=(List.range m).map fun b=>(dn z (wJ m a b) s).take z:=by
 obtain⟨a,ha,rfl⟩:=List.mem_map.1 h
 exact⟨a,List.mem_range.1 ha,rfl⟩
theorem pJ (m z:Nat) (s:List UInt8):(mr m z s).length=m:=by simp [mr]
theorem Aw {m z:Nat} {s:List UInt8} (hm:m<12) (hl:s.length=z*(m*(m+1)/2)) {a b:Nat} (ha:a<m) (hb:b<m):((dn z (wJ m a b) s).take z).length=z:=by
 rw [List.length_take,zG,hl]
 have h:=(Gu m hm a ha b hb).1
 generalize wJ m a b=p at h
 generalize m*(m+1)/2=K at h
 have h2:(p+1)*z≤K*z:=Nat.mul_le_mul_right z h
 rw [Nat.succ_mul] at h2
 rw [Nat.mul_comm z K]
 omega
theorem uE {nd sz:Int} {s:List UInt8} (h:oM nd sz s=0):eG nd (kz nd sz s)=0∧oi (kz nd sz s)=sz.toNat:=by
 have hC:kz nd sz s=mr (nd-1).toNat sz.toNat s:=if_pos h
 unfold oM at h
 split at h
 ·cases h
 ·rename_i h1
  split at h
  ·rename_i h2
   rw [hC]
   generalize hm:(nd-1).toNat=m
   have hm1:1≤m∧m<12:=by omega
   have hnd:nd=(m:Int)+1:=by omega
   have hl:s.length=sz.toNat*(m*(m+1)/2):=by
    have e:(nd-1)*nd/2=((m*(m+1)/2:Nat):Int):=by
     rw [hnd,show(m:Int)+1-1=(m:Int) by omega,Int.natCast_ediv,Int.natCast_mul,Int.natCast_add];rfl
    rw [e] at h2
    have:((s.length:Nat):Int)=((sz.toNat*(m*(m+1)/2):Nat):Int):=by rw [h2,Int.natCast_mul,Int.toNat_of_nonneg (by omega)]
    exact Int.ofNat_inj.1 this
   have h00:oi (mr m sz.toNat s)=sz.toNat:=by
    show(((mr m sz.toNat s).getD 0 []).getD 0 []).length=_
    rw [uF (by omega) (by omega),Aw hm1.2 hl (by omega) (by omega)]
   refine⟨?_,h00⟩
   unfold eG
   rw [if_neg (by omega),if_neg (by rw [pJ];omega),if_neg,if_neg (by omega),if_neg]
   ·intro e
    have:Lo (mr m sz.toNat s) (mr m sz.toNat s).length=true:=by
     rw [pJ]
     refine List.all_eq_true.2 fun a ha=>List.all_eq_true.2 fun b hb=>decide_eq_true ?_
     have ha:=List.mem_range.1 ha
     have hb:=List.mem_range.1 hb
     rw [uF ha (by omega),uF (by omega) ha,(Gu m hm1.2 a ha b (by omega)).2]
    rw [this] at e;cases e
   ·intro e
    have:(mr m sz.toNat s).all (jH (mr m sz.toNat s))=true:=by
     refine List.all_eq_true.2 fun l hl'=> ?_
     obtain⟨a,ha,rfl⟩:=Mq hl'
     refine wb (by rw [pJ];simp) ?_ (List.all_eq_true.2 fun x hx=>decide_eq_true ?_)
     ·rw [pJ]
      simp [mr,List.getD_eq_getElem?_getD,show 0<m by omega]
     ·obtain⟨b,hb,rfl⟩:=List.mem_map.1 hx
      rw [h00,Aw hm1.2 hl ha (List.mem_range.1 hb)]
    rw [this] at e;cases e
  ·cases h
structure SOk (hs:List Int) (nd sz:Int) (R:List (List (List UInt8))) (W:List (List (List (List UInt8)))):Prop where
 rl:R.length=hs.length
 vl:W.length=hs.length
 vv:∀x∈W,x.length=hs.length
 ro:∀r∈R,qN nd sz r
 vo:∀x∈W,∀y∈x,y.length=0∨((y.length:Int)=1∧((y.getD 0 []).length:Int)=sz)
theorem SOk.mxR {hs:List Int} {nd sz:Int} {R:List (List (List UInt8))} {W:List (List (List (List UInt8)))} (h:SOk hs nd sz R W) (hn:nd≤12):∀r∈R,r.length≤1048576:=fun r hr=>yq (h.ro r hr) (by omega)
theorem SOk.szd {hs:List Int} {nd sz:Int} {R:List (List (List UInt8))} {W:List (List (List (List UInt8)))} (h:SOk hs nd sz R W):∀v∈W,∀x∈v,0<x.length→((x.getD 0 []).length:Int)=sz:=fun v hv x hx h0=>by
 rcases h.vo v hv x hx with g|g
 ·omega
 ·exact g.2
theorem uD {nd sz:Int} {nz:List UInt8} (h:oM nd sz nz=0) (x:Int):qN nd sz (dZ (oj nd sz nz) (kz nd sz nz) x):=by
 obtain⟨h1,h2⟩:=uE h
 have hd:=xR h1
 unfold dZ
 split
 ·refine .inr ⟨?_,fun s hs=> ?_⟩
  ·unfold iV
   rw [List.length_map]
   exact hd.len
  ·obtain⟨l,hl,rfl⟩:=List.mem_map.1 hs
   have hz:0≤sz:=by
    unfold oM at h
    split at h
    ·cases h
    ·omega
   have hll:=hd.rows l hl
   have hln:=hd.len
   have:=hd.n2
   rw [nh l (by omega) (hd.strs l hl),h2]
   omega
 ·exact .inl rfl
theorem kY {α:Type} {l:List α} {i:Nat} {a x:α} (h:x∈l.set i a):x∈l∨x=a:=List.mem_or_eq_of_mem_set h
theorem mZ {hs:List Int} {nd wr sz st ph me:Int} {sh nz:List UInt8} (h:dP hs nd wr sz st ph me sh nz=0):fZ hs nd wr sz st ph=0∧me∈hs∧oM nd sz nz=0∧(sh.length:Int)=sz:=by
 unfold dP at h
 split at h
 ·rename_i h0
  split at h
  ·cases h
  ·rename_i h1
   split at h
   ·rename_i h2
    exact⟨h0,(ig me hs 0 (by omega)).1 (by omega),h2.1,h2.2⟩
   ·cases h
 ·contradiction
theorem SOk.beg {hs:List Int} {nd wr sz st ph me:Int} {sh nz:List UInt8} (h:dP hs nd wr sz st ph me sh nz=0):SOk hs nd sz (mb hs nd wr sz st ph me sh nz) (oo hs nd wr sz st ph me sh nz):=by
 obtain⟨b1,b2,b3,b4⟩:=mZ h
 obtain⟨_,_,e3,e4,_⟩:=ng h
 rw [e3,e4]
 refine⟨by simp,by simp,fun x hx=> ?_,fun r hr=> ?_,fun x hx y hy=> ?_⟩
 ·rw [List.eq_of_mem_replicate hx,List.length_replicate]
 ·rcases kY hr with g|g
  ·rw [List.eq_of_mem_replicate g];exact .inl rfl
  ·rw [g];exact uD b3 me
 ·rw [List.eq_of_mem_replicate hx] at hy
  rw [List.eq_of_mem_replicate hy];exact .inl rfl
theorem zq {ss:List (List UInt8)} {n z:Int} (h:yI ss n z):(ss.length:Int)=n∧∀s∈ss,(s.length:Int)=z:=⟨h.1,fun s hs=>Classical.byContradiction fun g=>h.2 ⟨s,hs,g⟩⟩
theorem SOk.rcv {hs:List Int} {nd sz st ph me mk f t d tick:Int} {ss:List (List UInt8)} {R:List (List (List UInt8))} {W:List (List (List (List UInt8)))} (h:SOk hs nd sz R W):SOk hs nd sz (cZ hs nd sz st ph me R mk f t d ss tick) (cq hs sz st ph me W mk f t d ss tick):=by
 have hR:(cZ hs nd sz st ph me R mk f t d ss tick).length=hs.length∧∀r∈cZ hs nd sz st ph me R mk f t d ss tick,qN nd sz r:=by
  unfold cZ
  split
  ·rename_i g
   refine⟨by rw [List.length_set];exact h.rl,fun r hr=> ?_⟩
   rcases kY hr with e|e
   ·exact h.ro r e
   ·rw [e];exact .inr (zq g.2.2.2.2.1)
  ·exact⟨h.rl,h.ro⟩
 have hV:(cq hs sz st ph me W mk f t d ss tick).length=hs.length∧(∀x∈cq hs sz st ph me W mk f t d ss tick,x.length=hs.length)∧∀x∈cq hs sz st ph me W mk f t d ss tick,∀y∈x,y.length=0∨((y.length:Int)=1∧((y.getD 0 []).length:Int)=sz):=by
  unfold cq
  split
  ·rename_i g
   have g1:¬aj d hs 0<0:=fun e=>g.1 (by unfold c6;omega)
   have g2:=uN g1
   have hm:=bE [] W (aj d hs 0).toNat (by rw [h.vl];exact g2)
   refine⟨by rw [List.length_set];exact h.vl,fun x hx=> ?_,fun x hx y hy=> ?_⟩
   ·rcases kY hx with e|e
    ·exact h.vv x e
    ·rw [e,List.length_set];exact h.vv _ hm
   ·rcases kY hx with e|e
    ·exact h.vo x e y hy
    ·rw [e] at hy
     rcases kY hy with e|e
     ·exact h.vo _ hm y e
     ·obtain⟨s1,s2⟩:=zq g.2.2.2.1
      rw [e];exact .inr ⟨s1,s2 _ (bE [] ss 0 (by omega))⟩
  ·exact⟨h.vl,h.vv,h.vo⟩
 exact⟨hR.1,hV.1,hV.2.1,hR.2,hV.2.2⟩
theorem Aa (nd:Int) (cf:List (List (List UInt8))) (h:Int):(dZ nd cf h).length≤cf.length:=by
 unfold dZ
 split
 ·unfold iV;rw [List.length_map];exact Nat.le_refl _
 ·exact Nat.zero_le _
structure BMx (hs:List Int) (R:List (List (List UInt8))) (W:List (List (List (List UInt8)))) (M:List Ml):Prop where
 m:M.length≤1048576
 ms:∀m∈M,m.2.2.2.2.1.length≤1048576
 r:R.length≤1048576
 v:W.length≤1048576
 rs:∀x∈R,x.length≤1048576
 vs:∀x∈W,x.length≤1048576∧∀y∈x,y.length≤1048576
theorem Sq {hs:List Int} {nd wr sz st ph me:Int} {sh nz:List UInt8} (hh:hs.length≤1048576) (hz:nz.length≤1048576):BMx hs (mb hs nd wr sz st ph me sh nz) (oo hs nd wr sz st ph me sh nz) (uz hs nd wr sz st ph me sh nz):=by
 have hc:=Hm nd sz hz
 by_cases h:dP hs nd wr sz st ph me sh nz=0
 ·obtain⟨_,_,e3,e4,e5⟩:=ng h
  rw [e3,e4,e5]
  refine⟨Nat.le_trans (rV ..) hh,fun m hm=> ?_,by simpa using hh,by simpa using hh,fun x hx=> ?_,fun x hx=> ?_⟩
  ·obtain⟨p,_,rfl⟩:=List.mem_map.1 hm
   exact Nat.le_trans (Aa _ _ _) hc.1
  ·rcases kY hx with g|g
   ·rw [List.eq_of_mem_replicate g];exact Nat.zero_le _
   ·rw [g];exact Nat.le_trans (Aa _ _ _) hc.1
  ·rw [List.eq_of_mem_replicate hx]
   exact⟨by simpa using hh,fun y hy=>by rw [List.eq_of_mem_replicate hy];exact Nat.zero_le _⟩
 ·obtain⟨_,_,e3,e4,e5⟩:=ma h
  rw [e3,e4,e5]
  exact⟨Nat.zero_le _,(fun _ h=>by cases h),Nat.zero_le _,Nat.zero_le _,(fun _ h=>by cases h),(fun _ h=>by cases h)⟩
theorem Bt (hs:List Int) (me:Int) (R:List (List (List UInt8))):∀k,∀m∈eR hs me R k,m.2.2.2.2.1.length≤1048576
 |0,m,h=>by simp [eR] at h
 | k+1,m,h=>by
  rw [eR] at h
  rcases List.mem_append.1 h with h|h
  ·exact Bt hs me R k m h
  ·split at h
   ·cases h
   ·obtain⟨p,_,rfl⟩:=List.mem_map.1 h
    show(1:Nat)≤1048576
    omega
instance (nd sz:Int) (r:List (List UInt8)):Decidable (qN nd sz r):=by unfold qN;infer_instance
noncomputable def Wu (hs:List Int) (nd wr sz st ph me:Int) (rows:List (List (List UInt8))) (vals:List (List (List (List UInt8)))) (l:List RP):List (List (List UInt8)):=(Sc hs nd wr sz st ph l).map (lU hs nd wr sz me rows vals)
theorem Pg (hs:List Int) (nd wr sz st ph me:Int) (rows:List (List (List UInt8))) (vals:List (List (List (List UInt8)))) (l:List RP):rr hs nd wr sz st ph me rows vals l=Wu hs nd wr sz st ph me rows vals l:=by
 unfold rr Wu
 rw [s6]
noncomputable def Yr (hs:List Int) (nd wr sz st ph me:Int) (sh:List UInt8) (rows:List (List (List UInt8))) (vals:List (List (List (List UInt8)))) (l:List RP):Int:=
 if fZ hs nd wr sz st ph=0 then(if mj (Wu hs nd wr sz st ph me rows vals l) then gZ me sh (Wu hs nd wr sz st ph me rows vals l) else 17) else fZ hs nd wr sz st ph
theorem It (hs:List Int) (nd wr sz st ph me:Int) (sh:List UInt8) (rows:List (List (List UInt8))) (vals:List (List (List (List UInt8)))) (l:List RP):j8 hs nd wr sz st ph me sh rows vals l=Yr hs nd wr sz st ph me sh rows vals l:=by
 unfold j8 Yr
 rw [Pg]
theorem Wv (hs:List Int) (nd wr sz st ph me:Int) (sh:List UInt8) (rows:List (List (List UInt8))) (vals:List (List (List (List UInt8)))) (l:List RP):M6 hs nd wr sz st ph me sh rows vals l=if Yr hs nd wr sz st ph me sh rows vals l=0 then me else 0:=by
 unfold M6
 rw [It]
theorem Wt (hs:List Int) (nd wr sz st ph me:Int) (sh:List UInt8) (rows:List (List (List UInt8))) (vals:List (List (List (List UInt8)))) (l:List RP):xy hs nd wr sz st ph me sh rows vals l=if Yr hs nd wr sz st ph me sh rows vals l=0 then kq me sh (Wu hs nd wr sz st ph me rows vals l) else []:=by
 unfold xy
 rw [It,Pg]
structure Agr (xs:List UInt8) (Q:Nat→List UInt8):Prop where
 nd:xs.Nodup
 sz:∀k,k<xs.length→sz (Q k)≤xs.length
 sym:∀k l,k<xs.length→l<xs.length→aB (xs.getD k 0) (Q l)=aB (xs.getD l 0) (Q k)
def O5 (xs:List UInt8) (Q:Nat→List UInt8):Nat→List UInt8
 |0=> []
 |n+1=>dS [O5 xs Q n,(Q n).map (aI (aB 0 (xx xs n)))]
theorem Ae (xs:List UInt8) (Q:Nat→List UInt8) (z:UInt8):∀n,aB z (O5 xs Q n)=xs' (fun k=>aI (aB 0 (xx xs k)) (aB z (Q k))) n
 |0=>rfl
 |n+1=>by
  show aB z (dS [_,_])=xs' _ n^^^aI (aB 0 (xx xs n)) (aB z (Q n))
  rw [dk,Ae xs Q z n,jK]
theorem Gp {xs:List UInt8} {Q:Nat→List UInt8} (h:Agr xs Q):∀n,n≤xs.length→sz (O5 xs Q n)≤xs.length
 |0,_=>Nat.zero_le _
 |n+1,hn=>iQ _ _ _ (Gp h n (by omega)) (Nat.le_trans (Fb _ _) (h.sz n (by omega)))
theorem Br {xs:List UInt8} {Q:Nat→List UInt8} (h:Agr xs Q) {q:List UInt8} (hq:sz q≤xs.length) (z:UInt8) (hv:∀k,k<xs.length→aB (xs.getD k 0) q=aB z (Q k)):aB 0 q=aB z (O5 xs Q xs.length):=by
 rw [Ae,uJ xs h.nd q hq 0]
 exact dD fun k hk=>by rw [hv k hk]
def own (xs:List UInt8) (Q:Nat→List UInt8) (z:UInt8):List UInt8:=yv xs (fun k=>aB z (Q k)) xs.length
theorem yh (xs:List UInt8) (Q:Nat→List UInt8) (z:UInt8):sz (own xs Q z)≤xs.length:=uK _ _ _
theorem Q9 {xs:List UInt8} {Q:Nat→List UInt8} (h:Agr xs Q) (z:UInt8) {k:Nat} (hk:k<xs.length):aB (xs.getD k 0) (own xs Q z)=aB z (Q k):=A4 xs h.nd _ k hk
theorem G0 {xs:List UInt8} {Q:Nat→List UInt8} (h:Agr xs Q) (z:UInt8):aB 0 (own xs Q z)=aB z (O5 xs Q xs.length):=Br h (yh _ _ _) z fun _ hk=>Q9 h z hk
theorem G3 {xs:List UInt8} {Q:Nat→List UInt8} (h:Agr xs Q) {q:List UInt8} (hq:sz q≤xs.length) (x z:UInt8) (hv:∀k,k<xs.length→aB (xs.getD k 0) q=aB x (Q k)):aB x (own xs Q z)=aB z q:=by
 unfold own
 rw [mL,uJ xs h.nd q hq z]
 have e1:xs' (fun k=>aI (aB x (xx xs k)) (aB z (Q k))) xs.length=xs' (fun k=>xs' (fun l=>aI (aB x (xx xs k)) (aI (aB z (xx xs l)) (aB (xs.getD l 0) (Q k)))) xs.length) xs.length:=
  dD fun k hk=>by rw [pY,←uJ xs h.nd (Q k) (h.sz k hk) z]
 have e2:xs' (fun l=>aI (aB z (xx xs l)) (aB (xs.getD l 0) q)) xs.length=xs' (fun l=>xs' (fun k=>aI (aB z (xx xs l)) (aI (aB x (xx xs k)) (aB (xs.getD k 0) (Q l)))) xs.length) xs.length:=
  dD fun l hl=>by rw [pY,←uJ xs h.nd (Q l) (h.sz l hl) x,hv l hl]
 rw [e1,e2,tJ]
 refine dD fun l hl=>dD fun k hk=> ?_
 rw [h.sym l k hl hk]
 ac_rfl
def bits (A:List Int):Int:=A.foldl jY 0
theorem rD:∀(A:List Int) (s:Int) (b:Nat),(A.foldl jY s).toNat.testBit b=true↔s.toNat.testBit b=true∨∃a∈A,a.toNat=b
 |[],s,b=>by simp
 |a::A,s,b=>by
  rw [List.foldl_cons,rD A (jY s a) b,Am]
  simp only [Bool.or_eq_true,decide_eq_true_eq,List.mem_cons,exists_eq_or_imp]
  exact or_assoc
theorem fL (A:List Int) (b:Nat):(bits A).toNat.testBit b=true↔∃a∈A,a.toNat=b:=by
 unfold bits
 rw [rD]
 simp
theorem Jo (A B:List Int):bits (A++B)=B.foldl jY (bits A):=List.foldl_append ..
theorem nc (A:List Int) (h:Int):bits (A++ [h])=jY (bits A) h:=Jo A [h]
def yC (es:Ps) (k:Int) (A:List Int):Prop:=∀a∈A,∃ag,aa es a=some ag∧∀b∈A,(ag.getD k.toNat 0).toNat.testBit b.toNat=true
theorem vA {a s:Nat}:a&&&s=s↔∀n,s.testBit n=true→a.testBit n=true:=by
 constructor
 ·intro h n hn
  have:=congrArg (fun x=>x.testBit n) h
  simp only [Nat.testBit_and,hn,Bool.and_true] at this
  exact this
 ·intro h
  apply Nat.eq_of_testBit_eq
  intro n
  rw [Nat.testBit_and]
  cases hs:s.testBit n with
  |false=>rw [Bool.and_false]
  |true=>rw [h n hs];rfl
theorem gQ (A:List Int):0≤bits A:=by
 unfold bits
 cases A with
 |nil=>exact Int.le_refl 0
 | cons a A=>
  have:∀(A:List Int) (s:Int),0≤s→0≤A.foldl jY s:=fun A=>by
   induction A with
   |nil=>intro s h;exact h
   |cons b A ih=>intro s h;exact ih _ (by unfold jY;exact Int.natCast_nonneg _)
  exact this _ _ (Int.le_refl 0)
theorem Iu {es:Ps} {k:Int} {A:List Int} {h:Int} (hes:∀e∈es,∀x∈e.2,0≤x) (hA:∀a∈A,0≤a) (hf:fits es k (bits A) h) (hc:yC es k A):yC es k (A++ [h]):=by
 obtain⟨ag,h1,h2,h3⟩:=hf
 obtain⟨h4,h5⟩:=Hg.1 h2
 have h5:=vA.1 h5
 intro a ha
 rcases List.mem_append.1 ha with ha1|ha
 ·obtain⟨ag2,g1,g2⟩:=hc a ha1
  refine⟨ag2,g1,fun b hb=> ?_⟩
  rcases List.mem_append.1 hb with hb|hb
  ·exact g2 b hb
  ·obtain rfl:=List.mem_singleton.1 hb
   refine Classical.byContradiction fun hn=>h3 _ (qW g1) ⟨?_,?_⟩
   ·show((((bits A)/2^a.toNat).toNat&&&1:Nat):Int)=1
    rw [mY (gQ A),(fL A a.toNat).2 ⟨a,ha1,rfl⟩];rfl
   ·show((((ag2.getD k.toNat 0)/2^b.toNat).toNat&&&1:Nat):Int)=0
    have h0:0≤ag2.getD k.toNat 0:=by
     rcases Nat.lt_or_ge k.toNat ag2.length with hk|hk
     ·exact hes _ (qW g1) _ (bE 0 ag2 _ hk)
     ·rw [List.getD_eq_getElem?_getD,List.getElem?_eq_none hk];exact Int.le_refl 0
    rw [mY h0,Bool.eq_false_iff.2 hn];rfl
 ·obtain rfl:=List.mem_singleton.1 ha
  refine⟨ag,h1,fun b hb=> ?_⟩
  rcases List.mem_append.1 hb with hb|hb
  ·exact h5 _ ((fL A b.toNat).2 ⟨b,hb,rfl⟩)
  ·obtain rfl:=List.mem_singleton.1 hb
   exact h4
theorem Ji {es:Ps} {k:Int} {A:List Int} {h:Int} (hes:∀e∈es,∀x∈e.2,0≤x) (hg:xo es) (he0:∀e∈es,0≤e.1) (hA:∀a∈A,0≤a) (hc:yC es k (A++ [h])):fits es k (bits A) h:=by
 obtain⟨ag,h1,h2⟩:=hc h (by simp)
 refine⟨ag,h1,Hg.2 ⟨h2 h (by simp),vA.2 fun n hn=> ?_⟩,fun e he hb=> ?_⟩
 ·obtain⟨a,ha,rfl⟩:=(fL A n).1 hn
  exact h2 a (List.mem_append_left _ ha)
 ·obtain⟨b1,b2⟩:=hb
  have b1:((((bits A)/2^e.1.toNat).toNat&&&1:Nat):Int)=1:=b1
  have b2:((((e.2.getD k.toNat 0)/2^h.toNat).toNat&&&1:Nat):Int)=0:=b2
  rw [mY (gQ A)] at b1
  have h3:(bits A).toNat.testBit e.1.toNat=true:=by
   cases hx:(bits A).toNat.testBit e.1.toNat with
   |true=>rfl
   |false=>rw [hx] at b1;cases b1
  obtain⟨a,ha,hae⟩:=(fL A e.1.toNat).1 h3
  have:a=e.1:=by have:=hA a ha;have:=he0 e he;omega
  subst this
  obtain⟨ag2,g1,g2⟩:=hc e.1 (List.mem_append_left _ ha)
  rw [hg e he] at g1
  injection g1 with g1
  have:=g2 h (by simp)
  rw [←g1] at this
  have h0:0≤e.2.getD k.toNat 0:=by
   rcases Nat.lt_or_ge k.toNat e.2.length with hk|hk
   ·exact hes _ he _ (bE 0 e.2 _ hk)
   ·rw [List.getD_eq_getElem?_getD,List.getElem?_eq_none hk];exact Int.le_refl 0
  rw [mY h0,this] at b2
  cases b2
theorem mW {es:Ps} {k:Int} (hes:∀e∈es,∀x∈e.2,0≤x):∀(l A:List Int) (more:Int),(∀h∈l,0≤h)→(∀a∈A,0≤a)→0≤more→yC es k A→0≤cl es k l (bits A) more→
  ∃T,T.Sublist l∧(T.length:Int)=more∧cl es k l (bits A) more=bits (A++T)∧yC es k (A++T)
 |l,A,0,_,_,_,hc,_=>⟨[],List.nil_sublist _,rfl,by rw [uq,List.append_nil],by rw [List.append_nil];exact hc⟩
 |[],A,(more+1:Nat),_,_,_,hc,hx=>by
  rw [cl,if_neg (by omega)] at hx
  omega
 | h::l,A,(more+1:Nat),hl,hA,hm,hc,hx=>by
  have e1:((more+1:Nat):Int)-1=(more:Int):=by omega
  rw [cl,if_neg (by omega)] at hx ⊢
  by_cases hf:fits es k (bits A) h
  ·rw [if_pos hf] at hx ⊢
   rw [←nc,e1] at hx ⊢
   by_cases hy:0≤cl es k l (bits (A++ [h])) (more:Int)
   ·rw [if_pos hy] at hx ⊢
    obtain⟨T,t1,t2,t3,t4⟩:=mW hes l (A++ [h]) (more:Int) (fun x hx=>hl x (List.mem_cons_of_mem _ hx)) (fun a ha=>by
     rcases List.mem_append.1 ha with ha|ha
     ·exact hA a ha
     ·rw [List.mem_singleton.1 ha];exact hl h (List.mem_cons_self)) (by omega) (Iu hes hA hf hc) hy
    refine⟨h::T,t1.cons_cons h,by rw [List.length_cons];omega,by rw [t3,List.append_assoc];rfl,?_⟩
    rw [List.append_assoc] at t4
    exact t4
   ·rw [if_neg hy] at hx ⊢
    obtain⟨T,t1,t2,t3,t4⟩:=mW hes l A _ (fun x hx=>hl x (List.mem_cons_of_mem _ hx)) hA hm hc hx
    exact⟨T,t1.cons h,t2,t3,t4⟩
  ·rw [if_neg hf] at hx ⊢
   obtain⟨T,t1,t2,t3,t4⟩:=mW hes l A _ (fun x hx=>hl x (List.mem_cons_of_mem _ hx)) hA hm hc hx
   exact⟨T,t1.cons h,t2,t3,t4⟩
 |_,_,Int.negSucc _,_,_,hm,_,_=>by omega
theorem yC.sub {es:Ps} {k:Int} {A B:List Int} (h:yC es k B) (hs:∀a∈A,a∈B):yC es k A:=fun a ha=>by
 obtain⟨ag,h1,h2⟩:=h a (hs a ha)
 exact⟨ag,h1,fun b hb=>h2 b (hs b hb)⟩
theorem kG {es:Ps} {k:Int} (hes:∀e∈es,∀x∈e.2,0≤x) (hg:xo es) (he0:∀e∈es,0≤e.1):∀(l A T:List Int),(∀h∈l,0≤h)→(∀a∈A,0≤a)→T.Sublist l→yC es k (A++T)→0≤cl es k l (bits A) (T.length:Int)
 |l,A, [],_,_,_,_=>by rw [List.length_nil];show 0≤cl es k l (bits A) 0;rw [uq];exact gQ A
 |[],A,t::T,_,_,hs,_=>by cases hs
 | h::l,A,t::T,hl,hA,hs,hc=>by
  have hl2:∀x∈l,0≤x:=fun x hx=>hl x (List.mem_cons_of_mem _ hx)
  have skip:(t::T).Sublist l→0≤cl es k (h::l) (bits A) ((t::T).length:Int):=fun hs=>by
   have ih:=kG hes hg he0 l A (t::T) hl2 hA hs hc
   rw [cl,if_neg (by rw [List.length_cons];omega)]
   split
   ·split
    ·assumption
    ·exact ih
   ·exact ih
  cases hs with
  |cons _ hs=>exact skip hs
  | cons_cons _ hs=>
   have hA2:∀a∈A++ [h],0≤a:=fun a ha=>by
    rcases List.mem_append.1 ha with ha|ha
    ·exact hA a ha
    ·rw [List.mem_singleton.1 ha];exact hl h (List.mem_cons_self)
   have hf:fits es k (bits A) h:=Ji hes hg he0 hA (hc.sub fun a ha=>by
    rcases List.mem_append.1 ha with ha|ha
    ·exact List.mem_append_left _ ha
    ·rw [List.mem_singleton.1 ha];exact List.mem_append_right _ (List.mem_cons_self))
   have ih:=kG hes hg he0 l (A++ [h]) T hl2 hA2 hs (by rw [List.append_assoc];exact hc)
   rw [nc] at ih
   rw [cl,if_neg (by rw [List.length_cons];omega),if_pos hf,show((h::T).length:Int)-1=(T.length:Int) by rw [List.length_cons];omega,if_pos ih]
   exact ih
section
abbrev e7:=List (List UInt8)
theorem Gn {hs:List Int} {me:Int} {R:List e7} {W:List (List e7)} {k:Nat} (hk:k<hs.length):(eN hs me R W).getD k 0=da hs me R W k:=by
 unfold eN
 rw [gD (by simpa using hk)];simp
theorem Gs {hs:List Int} (hb:∀x∈hs,0≤x∧x<12) {me b:Int} (hm:0≤me) (h0:0≤b) {R:List e7} {W:List (List e7)} {k:Nat} (hk:k<hs.length) (h:((eN hs me R W).getD k 0).toNat.testBit b.toNat=true):
  (R.getD k []).length≠0∧(b=me∨∃j:Nat,j<hs.length∧hs.getD j 0=b∧b≠me∧0<((W.getD k []).getD j []).length∧((W.getD k []).getD j []).getD 0 []=dK (R.getD k []) b):=by
 rw [Gn hk] at h
 unfold da at h
 split at h
 ·simp at h
 ·rename_i hr
  refine⟨hr,?_⟩
  rcases(pW _ _ _ _ _).1 h with h|⟨p,hp,⟨h1,h2⟩,h3⟩
  ·left
   rw [Int.one_mul,mD,Nat.testBit_two_pow] at h
   have:=of_decide_eq_true h
   omega
  ·right
   obtain⟨j,j1,j2,j3,j4⟩:=fb hs 0 hp
   have hpb:p.2=b:=by
    have:=hb _ (bE 0 hs j j1)
    rw [←j3] at this
    omega
   refine⟨j,j1,by rw [←j3,hpb],by rw [←hpb];exact j4,?_,?_⟩
   ·rw [j2] at h1;simpa using h1
   ·rw [j2,hpb] at h2;simpa using h2
theorem Gr {hs:List Int} (hb:∀x∈hs,0≤x∧x<12) {me:Int} (hm:0≤me) {R:List e7} {W:List (List e7)} {k j:Nat} (hk:k<hs.length) (hj:j<hs.length) (hr:(R.getD k []).length≠0)
  (h:hs.getD j 0=me∨(0<((W.getD k []).getD j []).length∧((W.getD k []).getD j []).getD 0 []=dK (R.getD k []) (hs.getD j 0))):((eN hs me R W).getD k 0).toNat.testBit (hs.getD j 0).toNat=true:=by
 rw [Gn hk]
 unfold da
 rw [if_neg hr,pW]
 by_cases e:hs.getD j 0=me
 ·left
  rw [Int.one_mul,mD,Nat.testBit_two_pow,e]
  exact decide_eq_true rfl
 ·right
  have h:=h.resolve_left e
  refine⟨(((0+j:Nat):Int),hs.getD j 0),qM hs 0 j hj e,?_,rfl⟩
  simpa using h
structure Played (hs:List Int) (nd wr sz st ph:Int) (hon:List Int) (R:Int→List e7) (W:Int→List (List e7)) (l:List RP):Prop where
 tk:Tk hs nd wr sz st ph
 sub:hon.Sublist hs
 many:(hs.length:Int)≤hon.length+wr
 rl:∀h∈hon,(R h).length=hs.length
 ok:∀h∈hon,∀r∈R h,qN nd sz r
 val:∀h∈hon,∀k j:Nat,k<hs.length→j<hs.length→hs.getD j 0∈hon→hs.getD j 0≠h→
  ((W h).getD k []).getD j []= []∨(((R (hs.getD j 0)).getD k []).length≠0∧((W h).getD k []).getD j []= [dK ((R (hs.getD j 0)).getD k []) h])
 vsz:∀h∈hon,∀v∈W h,∀x∈v,0<x.length→((x.getD 0 []).length:Int)=sz
 post:∀h∈hon,aa (fU hs l) h=some (eN hs h (R h) (W h))
section
variable {hs:List Int} {nd wr sz st ph:Int} {hon:List Int} {R:Int→List e7} {W:Int→List (List e7)} {l:List RP} (P:Played hs nd wr sz st ph hon R W l)
include P
theorem Played.in {h:Int} (hh:h∈hon):h∈hs:=P.sub.subset hh
theorem Played.bd {h:Int} (hh:h∈hon):0≤h∧h<12:=P.tk.hs12 h (P.in hh)
theorem Played.psok:S7 hs (fU hs l):=zD P.tk.hs12 l [] (fun _ h=>by cases h)
theorem Played.get:xo (fU hs l):=Bi hs l [] (fun _ h=>by cases h)
theorem Played.agree {k:Nat} (hk:k<hs.length) {T:List Int} (hc:yC (fU hs l) k T) {a b:Int} (ha:a∈hon) (hb:b∈hon) (ha2:a∈T) (hb2:b∈T):
  ((R a).getD k []).length≠0∧dK ((R a).getD k []) b=dK ((R b).getD k []) a:=by
 obtain⟨ag,h1,h2⟩:=hc a ha2
 rw [P.post a ha] at h1
 injection h1 with h1
 have hba:=h2 b hb2
 rw [←h1,Int.toNat_natCast] at hba
 obtain⟨r0,hv⟩:=Gs P.tk.hs12 (P.bd ha).1 (P.bd hb).1 hk hba
 refine⟨r0,?_⟩
 rcases hv with rfl|⟨j,j1,j2,j3,j4,j5⟩
 ·rfl
 ·rw [←j5]
  subst j2
  rcases P.val a ha k j hk j1 hb j3 with e|⟨_,e⟩
  ·rw [e] at j4;simp at j4
  ·rw [e];rfl
end
end
theorem Lx {a b:Int} (ha:0≤a∧a<12) (hb:0≤b∧b<12) (h:pt a=pt b):a=b:=by
 have:=Q4 (a:=a.toNat) (b:=b.toNat) (by omega) (by omega) (by rw [Int.toNat_of_nonneg ha.1,Int.toNat_of_nonneg hb.1];exact h)
 omega
theorem nJ:∀(l:List Int),l.Nodup→(∀i∈l,0≤i∧i<12)→(l.map pt).Nodup
 |[],_,_=>List.nodup_nil
 |a::l,hn,hl=>by
  rw [List.map_cons,List.nodup_cons]
  rw [List.nodup_cons] at hn
  refine⟨fun h=> ?_,nJ l hn.2 fun i hi=>hl i (List.mem_cons_of_mem _ hi)⟩
  obtain⟨b,hb,e⟩:=List.mem_map.1 h
  have:=Lx (hl b (List.mem_cons_of_mem _ hb)) (hl a List.mem_cons_self) e
  exact hn.1 (this▸hb)
theorem Tk.nodup {hs:List Int} {nd wr sz st ph:Int} (h:Tk hs nd wr sz st ph):hs.Nodup:=by
 exact List.pairwise_iff_getElem.2 fun i j hi hj hij e=>by
  have:=jw h.ho hi hj (by rw [gD hi,gD hj];exact e)
  omega
theorem pz {nd sz:Int} {r:e7} (hn:2≤nd∧nd≤12) (hz:1≤sz∧sz≤4096) (h:qN nd sz r) (h0:r.length≠0):r.length=(nd-1).toNat∧(∀s∈r,s.length=sz.toNat)∧a7 r=true:=by
 rcases h with h|⟨h1,h2⟩
 ·exact absurd h h0
 ·have hz2:n0 r=sz.toNat:=by
   have:=h2 _ (bE [] r 0 (by omega))
   unfold n0
   omega
  refine⟨by omega,fun s hs=>by have:=h2 s hs;omega,?_⟩
  rw [kV (by omega) (by omega)]
  refine List.all_eq_true.2 fun s hs=> ?_
  have:=h2 s hs
  rw [decide_eq_true (by omega:s.length=n0 r),decide_eq_true (by omega:s.length≤4096)];rfl
theorem gg {nd sz:Int} {r:e7} (hn:2≤nd∧nd≤12) (hz:1≤sz∧sz≤4096) (h:qN nd sz r) (h0:r.length≠0) {x:Int} (hx:0≤x∧x<12) {b:Nat} (hb:b<sz.toNat):
  (dK r x).length=sz.toNat∧(dK r x).getD b 0=aB (pt x) (lX r b):=by
 obtain⟨h1,h2,h3⟩:=pz hn hz h h0
 have e:tQ r x=0:=by unfold tQ;rw [if_pos h3,if_pos (show gG x from hx)]
 unfold dK
 rw [if_pos e]
 exact⟨nh r (by omega) h2,u5 hb r (by omega) h2⟩
theorem aAv (r:e7) (b:Nat):aB 0 (lX r b)=(r.getD 0 []).getD b 0:=by
 cases r with
 |nil=>rfl
 |cons s r=>
  show aI _ 0^^^s.getD b 0=_
  rw [bB];simp
def wz (hon T:List Int):List Int:=T.filter fun h=>decide (h∈hon)
theorem qu {hon T:List Int} {h:Int}:h∈wz hon T↔h∈T∧h∈hon:=by simp [wz]
theorem fD {α:Type} (p:α→Bool):∀l:List α,(l.filter p).length+(l.filter fun x=> !p x).length=l.length
 |[]=>rfl
 |a::l=>by
  have:=fD p l
  cases h:p a<;>simp [h]<;>omega
theorem Ip {hs hon T:List Int} (h1:hon.Sublist hs) (h2:T.Sublist hs):T.length+hon.length≤(wz hon T).length+hs.length:=by
 have a:=fD (fun h=>decide (h∈hon)) T
 have b:=fD (fun h=>decide (h∈hon)) hs
 have c:(T.filter fun x=> !decide (x∈hon)).length≤(hs.filter fun x=> !decide (x∈hon)).length:=(h2.filter _).length_le
 have d:hon.length≤(hs.filter fun h=>decide (h∈hon)).length:=by
  have:(hon.filter fun h=>decide (h∈hon))=hon:=List.filter_eq_self.2 fun x hx=>decide_eq_true hx
  have e:=(h1.filter fun h=>decide (h∈hon)).length_le
  rw [this] at e
  exact e
 unfold wz
 omega
theorem nN (p X Y:List UInt8):∀n,(cB p X Y n).length=((List.range n).filter fun k=>decide (aB (X.getD k 0) p≠Y.getD k 0)).length
 |0=>rfl
 |n+1=>by
  have ih:=nN p X Y n
  rw [cB,List.range_succ,List.filter_append,List.length_append,←ih]
  by_cases h:aB (X.getD n 0) p≠Y.getD n 0
  ·rw [if_pos h,List.length_append,List.filter_cons_of_pos (by exact decide_eq_true h)];rfl
  ·rw [if_neg h,List.filter_cons_of_neg (by simpa using h)];rfl
theorem wR {X:List UInt8} (h:X.Nodup):∀(L:List Nat),L.Nodup→(∀i∈L,i<X.length)→(L.map fun i=>X.getD i 0).Nodup
 |[],_,_=>List.nodup_nil
 | a::L,hn,hl=>by
  rw [List.map_cons,List.nodup_cons]
  rw [List.nodup_cons] at hn
  refine⟨fun hm=> ?_,wR h L hn.2 fun i hi=>hl i (List.mem_cons_of_mem _ hi)⟩
  obtain⟨b,hb,e⟩:=List.mem_map.1 hm
  have e:X.getD b 0=X.getD a 0:=e
  have h1:=hl b (List.mem_cons_of_mem _ hb)
  have h2:=hl a List.mem_cons_self
  rw [gD h1,gD h2] at e
  have hp:=List.pairwise_iff_getElem.1 h
  have:b=a:=by
   rcases Nat.lt_trichotomy b a with hl2|hl2|hl2
   ·exact absurd e (hp b a h1 h2 hl2)
   ·exact hl2
   ·exact absurd e.symm (hp a b h2 h1 hl2)
  exact hn.1 (this▸hb)
theorem I5 {X Y q p:List UInt8} {m b e:Nat} (hX:X.Nodup) (hq:sz q≤m) (hp:sz p≤m) (g:Nat→Bool) (hg:∀i,i<X.length→g i=true→Y.getD i 0=aB (X.getD i 0) q)
  (hb:((List.range X.length).filter fun i=> !g i).length≤b) (hm:(cB p X Y X.length).length≤e) (hN:m+b+e≤X.length):aF p=aF q:=by
 rw [nN] at hm
 have h1:=fD g (List.range X.length)
 have h2:=fD (fun k=>decide (aB (X.getD k 0) p≠Y.getD k 0)) ((List.range X.length).filter g)
 have h3:(((List.range X.length).filter g).filter fun k=>decide (aB (X.getD k 0) p≠Y.getD k 0)).length≤((List.range X.length).filter fun k=>decide (aB (X.getD k 0) p≠Y.getD k 0)).length:=
  (List.filter_sublist.filter _).length_le
 rw [List.length_range] at h1
 let S:=((List.range X.length).filter g).filter fun k=> !decide (aB (X.getD k 0) p≠Y.getD k 0)
 have hS:m≤S.length:=(om (m≤(((List.range X.length).filter g).filter fun k=> !decide (aB (X.getD k 0) p≠Y.getD k 0)).length))
 have hmem:∀i∈S,i<X.length∧g i=true∧aB (X.getD i 0) p=Y.getD i 0:=fun i hi=>by
  obtain⟨h4,h5⟩:=List.mem_filter.1 hi
  obtain⟨h6,h7⟩:=List.mem_filter.1 h4
  refine⟨List.mem_range.1 h6,h7,?_⟩
  simpa using h5
 have hnS:S.Nodup:=(List.filter_sublist.trans List.filter_sublist).nodup List.nodup_range
 refine dE (S.map fun i=>X.getD i 0) p q (wR hX S hnS fun i hi=>(hmem i hi).1) (fun x hx=> ?_) (by rw [List.length_map];omega) (by rw [List.length_map];omega)
 obtain⟨i,hi,rfl⟩:=List.mem_map.1 hx
 obtain⟨h4,h5,h6⟩:=hmem i hi
 show aB (X.getD i 0) p=aB (X.getD i 0) q
 rw [h6,hg i h4 h5]
theorem Hp {X Y q:List UInt8} (g:Nat→Bool) (hg:∀i,i<X.length→g i=true→Y.getD i 0=aB (X.getD i 0) q):(cB q X Y X.length).length≤((List.range X.length).filter fun i=> !g i).length:=by
 rw [nN]
 have:∀L:List Nat,(∀i∈L,i<X.length)→(L.filter fun k=>decide (aB (X.getD k 0) q≠Y.getD k 0)).length≤(L.filter fun i=> !g i).length:=fun L=>by
  induction L with
  |nil=>intro _;exact Nat.le_refl _
  | cons a L ih=>
   intro h
   have ih:=ih fun i hi=>h i (List.mem_cons_of_mem _ hi)
   have ha:=hg a (h a List.mem_cons_self)
   by_cases e:aB (X.getD a 0) q≠Y.getD a 0
   ·have:g a=false:=Bool.eq_false_iff.2 fun hga=>e (ha hga).symm
    rw [List.filter_cons_of_pos (by exact decide_eq_true e),List.filter_cons_of_pos (by rw [this];rfl)]
    exact Nat.succ_le_succ ih
   ·rw [List.filter_cons_of_neg (by simpa using e)]
    refine Nat.le_trans ih (List.Sublist.length_le ?_)
    exact(List.sublist_cons_self a L).filter _
 exact this _ fun i hi=>List.mem_range.1 hi
section
def pick (hon T:List Int) (nd:Int):List Int:=(wz hon T).take (nd-1).toNat
def tf (hon T:List Int) (nd:Int):List UInt8:=(pick hon T nd).map pt
def qs (R:Int→List e7) (hon T:List Int) (nd:Int) (k b i:Nat):List UInt8:=lX ((R ((pick hon T nd).getD i 0)).getD k []) b
theorem kU {nd sz:Int} {R:List e7} (h:∀r∈R,qN nd sz r) (k:Nat):qN nd sz (R.getD k []):=t6 h k
section
variable {hs:List Int} {nd wr sz st ph:Int} {hon:List Int} {R:Int→List e7} {W:Int→List (List e7)} {l:List RP} (P:Played hs nd wr sz st ph hon R W l)
variable {k:Nat} (hk:k<hs.length) {T:List Int} (hT:T.Sublist hs) (hl:(T.length:Int)=hs.length-wr) (hc:yC (fU hs l) k T)
include P
theorem Played.nd2:2≤nd∧nd≤12:=P.tk.rg.1.1
theorem Played.sz1:1≤sz∧sz≤4096:=P.tk.rg.1.2.2.1
theorem Played.wr0:0≤wr:=P.tk.rg.1.2.1.1
include hT hl
theorem Played.goodLen:nd-1+wr≤((wz hon T).length:Int):=by
 have:=Ip P.sub hT
 have:=P.many
 have:=P.tk.q2
 omega
theorem Played.pickLen:(pick hon T nd).length=(nd-1).toNat:=by
 have:=P.goodLen hT hl
 have:=P.wr0
 unfold pick
 rw [List.length_take]
 omega
omit P hT hl in
theorem qJ {hon T:List Int} {nd:Int} {i:Nat} (hi:i<(pick hon T nd).length):(pick hon T nd).getD i 0∈T∧(pick hon T nd).getD i 0∈hon:=
 qu.1 (List.mem_of_mem_take (bE 0 _ i hi))
omit P hT hl in
theorem td {hon T:List Int} {nd:Int} {i:Nat} (hi:i<(pick hon T nd).length):(tf hon T nd).getD i 0=pt ((pick hon T nd).getD i 0):=by
 unfold tf
 rw [gD (by rw [List.length_map];exact hi),gD hi,List.getElem_map]
theorem Played.ptsLen:(tf hon T nd).length=(nd-1).toNat:=by unfold tf;rw [List.length_map];exact P.pickLen hT hl
include hk hc
theorem Played.mineAt {b:Nat} (hb:b<sz.toNat) {h:Int} (hh:h∈hon) (hh2:h∈T) {i:Nat} (hi:i<(pick hon T nd).length):
  aB (pt ((pick hon T nd).getD i 0)) (lX ((R h).getD k []) b)=aB (pt h) (lX ((R ((pick hon T nd).getD i 0)).getD k []) b):=by
 obtain⟨i1,i2⟩:=qJ hi
 obtain⟨a1,a2⟩:=P.agree hk hc hh i2 hh2 i1
 obtain⟨b1,_⟩:=P.agree hk hc i2 hh i1 hh2
 rw [←(gg P.nd2 P.sz1 (kU (P.ok h hh) k) a1 (P.bd i2) hb).2,a2,(gg P.nd2 P.sz1 (kU (P.ok _ i2) k) b1 (P.bd hh) hb).2]
theorem Played.agr {b:Nat} (hb:b<sz.toNat):Agr (tf hon T nd) (qs R hon T nd k b):=by
 have hpl:=P.pickLen hT hl
 have hpt:=P.ptsLen hT hl
 refine⟨nJ _ (((List.take_sublist _ _).trans (List.filter_sublist.trans hT)).nodup P.tk.nodup) fun i hi=> ?_,fun i hi=> ?_,fun i j hi hj=> ?_⟩
 ·exact P.bd (qu.1 (List.mem_of_mem_take hi)).2
 ·obtain⟨i1,i2⟩:=qJ (hon:=hon) (T:=T) (nd:=nd) (i:=i) (by omega)
  obtain⟨a1,_⟩:=P.agree hk hc i2 i2 i1 i1
  refine Nat.le_trans (je _) ?_
  unfold qs
  rw [iv,(pz P.nd2 P.sz1 (kU (P.ok _ i2) k) a1).1,hpt]
  exact Nat.le_refl _
 ·obtain⟨j1,j2⟩:=qJ (hon:=hon) (T:=T) (nd:=nd) (i:=j) (by omega)
  rw [td (by omega),td (by omega)]
  unfold qs
  exact P.mineAt hk hT hl hc hb j2 j1 (by omega)
theorem Played.mine {b:Nat} (hb:b<sz.toNat) {h:Int} (hh:h∈hon) (hh2:h∈T):(((R h).getD k []).getD 0 []).getD b 0=aB (pt h) (O5 (tf hon T nd) (qs R hon T nd k b) (tf hon T nd).length):=by
 have hpl:=P.pickLen hT hl
 have hpt:=P.ptsLen hT hl
 obtain⟨a1,_⟩:=P.agree hk hc hh hh hh2 hh2
 rw [←aAv]
 refine Br (P.agr hk hT hl hc hb) (Nat.le_trans (je _) ?_) _ fun i hi=> ?_
 ·rw [iv,(pz P.nd2 P.sz1 (kU (P.ok _ hh) k) a1).1,hpt];exact Nat.le_refl _
 ·rw [td (by omega)]
  exact P.mineAt hk hT hl hc hb hh hh2 (by omega)
theorem Played.sentAt {b:Nat} (hb:b<sz.toNat) {h g:Int} (hh:h∈hon) (hh2:h∈T) (hg:0≤g∧g<12):(dK ((R h).getD k []) g).getD b 0=aB (pt h) (Go.Proofs.YtailffhfhekkpaaDoor.S62c.own (tf hon T nd) (qs R hon T nd k b) (pt g)):=by
 have hpl:=P.pickLen hT hl
 have hpt:=P.ptsLen hT hl
 obtain⟨a1,_⟩:=P.agree hk hc hh hh hh2 hh2
 rw [(gg P.nd2 P.sz1 (kU (P.ok h hh) k) a1 hg hb).2]
 refine(G3 (P.agr hk hT hl hc hb) (Nat.le_trans (je _) ?_) _ _ fun i hi=> ?_).symm
 ·rw [iv,(pz P.nd2 P.sz1 (kU (P.ok _ hh) k) a1).1,hpt];exact Nat.le_refl _
 ·rw [td (by omega)]
  exact P.mineAt hk hT hl hc hb hh hh2 (by omega)
end
end
section
theorem aAt (p:List UInt8):aB 0 p=p.getD 0 0:=by
 cases p with
 |nil=>rfl
 |cons c p=>
  show aI _ 0^^^c=_
  rw [bB];simp
theorem yZ {α:Type} (d:α) (F:List α):(List.range F.length).map (fun i=>F.getD i d)=F:=by
 apply List.ext_getElem
 ·simp
 ·intro i h1 h2
  rw [List.getElem_map,List.getElem_range,gD h2]
theorem mB {α:Type} (d:α) (F:List α) (q:α→Bool):((List.range F.length).filter fun i=>q (F.getD i d)).length=(F.filter q).length:=by
 conv=>rhs;rw [←yZ d F,List.filter_map,List.length_map]
 rfl
theorem qY {α β:Type} (f:α→β) (d:α) (e:β) (F:List α) {i:Nat} (hi:i<F.length):(F.map f).getD i e=f (F.getD i d):=by
 rw [gD (by rw [List.length_map];exact hi),gD hi,List.getElem_map]
section
variable {hs:List Int} {nd wr sz st ph:Int} {hon:List Int} {R:Int→List e7} {W:Int→List (List e7)} {l:List RP} (P:Played hs nd wr sz st ph hon R W l)
variable {k:Nat} (hk:k<hs.length) {T:List Int} (hT:T.Sublist hs) (hl:(T.length:Int)=hs.length-wr) (hc:yC (fU hs l) k T)
include P hk hT hl hc
theorem Played.heard {h:Int} (hh:h∈hon) {b:Nat} (hb:b<sz.toNat):let F:=(a5 h 0 hs).filter (rx (bits T) ((W h).getD k []))
  (∀i,i<F.length→decide ((F.getD i (0,0)).2∈hon)=true→(x8 (ja (bits T) ((W h).getD k []) (a5 h 0 hs)) b).getD i 0=aB (pt (F.getD i (0,0)).2) (Go.Proofs.YtailffhfhekkpaaDoor.S62c.own (tf hon T nd) (qs R hon T nd k b) (pt h)))∧
  (F.map (·.2)).Sublist hs∧((List.range F.length).filter fun i=> !decide ((F.getD i (0,0)).2∈hon)).length≤wr.toNat:=by
 intro F
 have hF2:(F.map (·.2)).Sublist hs:=(List.filter_sublist.map _).trans (by rw [tr];exact List.filter_sublist)
 refine⟨fun i hi hg=> ?_,hF2,?_⟩
 ·have hg:(F.getD i (0,0)).2∈hon:=of_decide_eq_true hg
  obtain⟨m1,m2⟩:=List.mem_filter.1 (bE (0,0) F i hi)
  obtain⟨d1,d2⟩:=of_decide_eq_true m2
  obtain⟨j,j1,j2,j3,j4⟩:=fb hs 0 m1
  have hT2:(F.getD i (0,0)).2∈T:=by
   rw [pV (gQ T)] at d1
   obtain⟨a,a1,a2⟩:=(fL T _).1 d1
   have h1:=P.tk.hs12 a (hT.subset a1)
   have h2:=P.bd hg
   have:a=(F.getD i (0,0)).2:=by omega
   rw [←this];exact a1
  have hj:(F.getD i (0,0)).1.toNat=j:=by rw [j2];omega
  have hv:=P.val h hh k j hk j1 (by rw [←j3];exact hg) (by rw [←j3];exact j4)
  have hY:(x8 (ja (bits T) ((W h).getD k []) (a5 h 0 hs)) b).getD i 0=((((W h).getD k []).getD j []).getD 0 []).getD b 0:=by
   unfold x8 ja
   rw [List.map_map,qY _ (0,0) 0 F hi]
   show((((W h).getD k []).getD (F.getD i (0,0)).1.toNat []).getD 0 []).getD b 0=_
   rw [hj]
  rw [hY]
  rw [hj] at d2
  rcases hv with e|⟨_,e⟩
  ·rw [e] at d2;simp at d2
  ·rw [e]
   show(dK ((R (hs.getD j 0)).getD k []) h).getD b 0=_
   rw [←j3]
   exact P.sentAt hk hT hl hc hb hg hT2 (P.bd hh)
 ·rw [mB (0,0) F fun p=> !decide (p.2∈hon)]
  have e1:(F.filter fun p=> !decide (p.2∈hon)).length=((F.map (·.2)).filter fun h=> !decide (h∈hon)).length:=by
   rw [List.filter_map,List.length_map];rfl
  have e2:((F.map (·.2)).filter fun h=> !decide (h∈hon)).length≤(hs.filter fun h=> !decide (h∈hon)).length:=(hF2.filter _).length_le
  have e3:=fD (fun h=>decide (h∈hon)) hs
  have e4:hon.length≤(hs.filter fun h=>decide (h∈hon)).length:=by
   have:(hon.filter fun h=>decide (h∈hon))=hon:=List.filter_eq_self.2 fun x hx=>decide_eq_true hx
   have e:=(P.sub.filter fun h=>decide (h∈hon)).length_le
   rw [this] at e
   exact e
  have:=P.many
  have:=P.wr0
  omega
end
end
section
theorem nI {α:Type} [DecidableEq α]:∀(A B:List α),A.Nodup→(∀a∈A,a∈B)→A.length≤B.length
 |[],_,_,_=>Nat.zero_le _
 |a::A,B,hn,hs=>by
  rw [List.nodup_cons] at hn
  have h1:=hs a List.mem_cons_self
  have ih:=nI A (B.erase a) hn.2 fun x hx=>(List.mem_erase_of_ne (fun e:x=a=>hn.1 (by rw [←e];exact hx))).2 (hs x (List.mem_cons_of_mem _ hx))
  rw [List.length_erase_of_mem h1] at ih
  have:=List.length_pos_of_mem h1
  rw [List.length_cons]
  omega
section
variable {hs:List Int} {nd wr sz st ph:Int} {hon:List Int} {R:Int→List e7} {W:Int→List (List e7)} {l:List RP} (P:Played hs nd wr sz st ph hon R W l)
variable {k:Nat} (hk:k<hs.length) {T:List Int} (hT:T.Sublist hs) (hl:(T.length:Int)=hs.length-wr) (hc:yC (fU hs l) k T)
include P hk hT hl hc
theorem Played.pts2 {h:Int}:let F:=(a5 h 0 hs).filter (rx (bits T) ((W h).getD k []))
  jV (bits T) ((W h).getD k []) (a5 h 0 hs)=F.map (fun p=>pt p.2)∧((F.map (·.2)).Sublist hs→(F.map fun p=>pt p.2).Nodup):=by
 intro F
 refine⟨rfl,fun hF2=> ?_⟩
 have:(F.map fun p=>pt p.2)=(F.map (·.2)).map pt:=by rw [List.map_map];rfl
 rw [this]
 exact nJ _ (hF2.nodup P.tk.nodup) fun i hi=>P.tk.hs12 i (hF2.subset hi)
theorem Played.decoded {h:Int} (hh:h∈hon) (hO:x9 wr sz (nd-1) (jV (bits T) ((W h).getD k []) (a5 h 0 hs)) (ja (bits T) ((W h).getD k []) (a5 h 0 hs))) {b:Nat} (hb:b<sz.toNat):
  ((yA wr sz (nd-1) (jV (bits T) ((W h).getD k []) (a5 h 0 hs)) (ja (bits T) ((W h).getD k []) (a5 h 0 hs))).getD 0 []).getD b 0=aB (pt h) (O5 (tf hon T nd) (qs R hon T nd k b) (tf hon T nd).length):=by
 obtain⟨f1,f2,f3⟩:=P.heard hk hT hl hc hh hb
 obtain⟨e1,e2⟩:=P.pts2 hk hT hl hc (h:=h)
 have e2:=e2 f2
 have hpt:=P.ptsLen hT hl
 have hn:=P.nd2
 have hw:=P.wr0
 have hwl:=pQ (bits T) ((W h).getD k []) (a5 h 0 hs)
 have hol:=kX h hs 0
 have hxl:=pP (bits T) ((W h).getD k []) (a5 h 0 hs)
 have h12:=P.tk.l12
 rw [←e1] at e2
 have hFl:((a5 h 0 hs).filter (rx (bits T) ((W h).getD k []))).length=(jV (bits T) ((W h).getD k []) (a5 h 0 hs)).length:=by rw [e1,List.length_map]
 have f1':∀i,i<(jV (bits T) ((W h).getD k []) (a5 h 0 hs)).length→decide ((((a5 h 0 hs).filter (rx (bits T) ((W h).getD k []))).getD i (0,0)).2∈hon)=true→(x8 (ja (bits T) ((W h).getD k []) (a5 h 0 hs)) b).getD i 0=aB ((jV (bits T) ((W h).getD k []) (a5 h 0 hs)).getD i 0) (Go.Proofs.YtailffhfhekkpaaDoor.S62c.own (tf hon T nd) (qs R hon T nd k b) (pt h)):=fun i hi hg=>by
  have:=f1 i (by omega) hg
  rw [this,e1,qY _ (0,0) 0 _ (by omega)]
 rw [hFl] at f3
 generalize hXg:jV (bits T) ((W h).getD k []) (a5 h 0 hs)=X at*
 generalize hUg:ja (bits T) ((W h).getD k []) (a5 h 0 hs)=U at*
 obtain⟨o1,o2⟩:=hO
 have o3:=o2 b (by omega)
 have hYl:(x8 U b).length=X.length:=by unfold x8;rw [List.length_map];exact hwl
 have hok:ir X (nd-1-1) (D7 wr (nd-1) X):=by unfold ir D7;omega
 have hdl:((yA wr sz (nd-1) X U).getD 0 []).getD b 0=(Jb X U (nd-1) (D7 wr (nd-1) X) b).1.getD 0 0:=by
  have r0:∀n i:Nat,i<n→(List.range n).getD i 0=i:=fun n i h=>by rw [gD (by rw [List.length_range];exact h),List.getElem_range]
  rw [yA,if_pos ⟨o1,o2⟩,qY _ 0 [] _ (by rw [List.length_range];omega),r0 _ _ (by omega)]
  unfold I8
  rw [qY _ 0 0 _ (by rw [List.length_range];exact hb),r0 _ _ hb,Nk]
 rw [hdl]
 unfold Jb kw at o3 ⊢
 rcases nY X (x8 U b) ⟨e2,hYl.symm⟩ (by omega) _ _ hok with e|⟨p,e,p1,p2,p3⟩
 ·rw [e] at o3;cases o3
 ·rw [e]
  show p.getD 0 0=_
  rw [eo] at p2
  have same:=I5 (q:=Go.Proofs.YtailffhfhekkpaaDoor.S62c.own (tf hon T nd) (qs R hon T nd k b) (pt h)) (p:=p) (Y:=x8 U b) (m:=(nd-1).toNat) (b:=wr.toNat) (e:=(D7 wr (nd-1) X).toNat) e2 (by have:=yh (tf hon T nd) (qs R hon T nd k b) (pt h);omega) (by omega) _ f1' f3 (by omega) (by unfold D7;omega)
  rw [←aAt,←ao 0 p,same,ao,G0 (P.agr hk hT hl hc hb)]
end
end
section
section
variable {hs:List Int} {nd wr sz st ph:Int} {hon:List Int} {R:Int→List e7} {W:Int→List (List e7)} {l:List RP} (P:Played hs nd wr sz st ph hon R W l)
variable {k:Nat} (hk:k<hs.length) {T:List Int} (hT:T.Sublist hs) (hl:(T.length:Int)=hs.length-wr) (hc:yC (fU hs l) k T)
include P hk hT hl hc
theorem Played.decodes {h:Int} (hh:h∈hon) (hn:h∉T) (hv:∀j:Nat,j<hs.length→hs.getD j 0∈hon→hs.getD j 0∈T→hs.getD j 0≠h→0<(((W h).getD k []).getD j []).length):
  x9 wr sz (nd-1) (jV (bits T) ((W h).getD k []) (a5 h 0 hs)) (ja (bits T) ((W h).getD k []) (a5 h 0 hs)):=by
 obtain⟨e1,e2⟩:=P.pts2 hk hT hl hc (h:=h)
 have hpt:=P.ptsLen hT hl
 have hn2:=P.nd2
 have hw:=P.wr0
 have hwl:=pQ (bits T) ((W h).getD k []) (a5 h 0 hs)
 have hol:=kX h hs 0
 have hxl:=pP (bits T) ((W h).getD k []) (a5 h 0 hs)
 have h12:=P.tk.l12
 have hgl:=P.goodLen hT hl
 have hz:=P.sz1
 have hsub:∀a∈wz hon T,a∈(((a5 h 0 hs).filter (rx (bits T) ((W h).getD k []))).filter fun p=>decide (p.2∈hon)).map (·.2):=fun a ha=>by
  obtain⟨a1,a2⟩:=qu.1 ha
  obtain⟨j,j1,j2⟩:=List.mem_iff_getElem.1 (hT.subset a1)
  have j2:hs.getD j 0=a:=by rw [gD j1];exact j2
  have hne:hs.getD j 0≠h:=by rw [j2];intro e;exact hn (e▸a1)
  have:=hv j j1 (by rw [j2];exact a2) (by rw [j2];exact a1) hne
  refine List.mem_map.2 ⟨(((0+j:Nat):Int),hs.getD j 0),List.mem_filter.2 ⟨List.mem_filter.2 ⟨qM hs 0 j j1 hne,decide_eq_true ⟨?_,?_⟩⟩,decide_eq_true (by show hs.getD j 0∈hon;rw [j2];exact a2)⟩,j2⟩
  ·rw [pV (gQ T)]
   exact(fL T _).2 ⟨a,a1,by rw [←j2]⟩
  ·show 0<(((W h).getD k []).getD ((0+j:Nat):Int).toNat []).length
   rw [Int.toNat_natCast,Nat.zero_add]
   exact this
 have hgn:(wz hon T).Nodup:=(List.filter_sublist.trans hT).nodup P.tk.nodup
 have hlen:=nI _ _ hgn hsub
 rw [List.length_map] at hlen
 have hF:=(List.filter_sublist (l:=(a5 h 0 hs).filter (rx (bits T) ((W h).getD k []))) (p:=fun p=>decide (p.2∈hon))).length_le
 have hFl:((a5 h 0 hs).filter (rx (bits T) ((W h).getD k []))).length=(jV (bits T) ((W h).getD k []) (a5 h 0 hs)).length:=by rw [e1,List.length_map]
 refine⟨by omega,fun b hb=> ?_⟩
 have hb:b<sz.toNat:=by omega
 obtain⟨f1,f2,f3⟩:=P.heard hk hT hl hc hh hb
 have e2:=e2 f2
 have f4:=fD (fun i=>decide ((((a5 h 0 hs).filter (rx (bits T) ((W h).getD k []))).getD i (0,0)).2∈hon)) (List.range ((a5 h 0 hs).filter (rx (bits T) ((W h).getD k []))).length)
 rw [mB (0,0) _ fun p=>decide (p.2∈hon),List.length_range] at f4
 rw [←e1] at e2
 have f1':∀i,i<(jV (bits T) ((W h).getD k []) (a5 h 0 hs)).length→decide ((((a5 h 0 hs).filter (rx (bits T) ((W h).getD k []))).getD i (0,0)).2∈hon)=true→(x8 (ja (bits T) ((W h).getD k []) (a5 h 0 hs)) b).getD i 0=aB ((jV (bits T) ((W h).getD k []) (a5 h 0 hs)).getD i 0) (Go.Proofs.YtailffhfhekkpaaDoor.S62c.own (tf hon T nd) (qs R hon T nd k b) (pt h)):=fun i hi hg=>by
  have:=f1 i (by omega) hg
  rw [this,e1,qY _ (0,0) 0 _ (by omega)]
 have f5:=Hp _ f1'
 rw [hFl] at f3 f4
 generalize hXg:jV (bits T) ((W h).getD k []) (a5 h 0 hs)=X at*
 generalize hUg:ja (bits T) ((W h).getD k []) (a5 h 0 hs)=U at*
 have hYl:(x8 U b).length=X.length:=by unfold x8;rw [List.length_map];exact hwl
 have hok:ir X (nd-1-1) (D7 wr (nd-1) X):=by unfold ir D7;omega
 have:=uj X (x8 U b) ⟨e2,hYl.symm⟩ (by omega) (nd-1-1) (D7 wr (nd-1) X) hok (Go.Proofs.YtailffhfhekkpaaDoor.S62c.own (tf hon T nd) (qs R hon T nd k b) (pt h)) (by have:=yh (tf hon T nd) (qs R hon T nd k b) (pt h);rw [eo];omega) (by unfold D7;omega)
 unfold Jb kw
 rw [this];rfl
end
end
section
theorem Es {hs:List Int} {wr:Int} {es:Ps} {v:Int×Int×Unit}:∀{n:Nat},v∈nv hs wr es n→∃k:Nat,k<n∧0≤cl es (k:Int) hs 0 ((hs.length:Int)-wr)∧v=(hs.getD k 0,cl es (k:Int) hs 0 ((hs.length:Int)-wr),())
 |0,h=>by cases h
 | n+1,h=>by
  rw [nv] at h
  rcases List.mem_append.1 h with h|h
  ·obtain⟨k,h1,h2⟩:=Es h
   exact⟨k,by omega,h2⟩
  ·unfold Lk at h
   rw [List.drop_zero] at h
   split at h
   ·rename_i h0
    exact⟨n,by omega,h0,List.mem_singleton.1 h⟩
   ·cases h
theorem Ay {hs:List Int} {wr:Int} {es:Ps} {k:Nat} (h0:0≤cl es (k:Int) hs 0 ((hs.length:Int)-wr)):∀{n:Nat},k<n→(hs.getD k 0,cl es (k:Int) hs 0 ((hs.length:Int)-wr),())∈nv hs wr es n
 |0,h=>by omega
 | n+1,h=>by
  rw [nv]
  by_cases e:k=n
  ·subst e
   refine List.mem_append_right _ ?_
   unfold Lk
   rw [List.drop_zero,if_pos h0]
   exact List.mem_singleton.2 rfl
  ·exact List.mem_append_left _ (Ay h0 (by omega))
theorem jJ {hs:List Int} (ho:jz (-1) hs=true) {k:Nat} (hk:k<hs.length):(aj (hs.getD k 0) hs 0).toNat=k:=by
 obtain⟨h0,h1,h2⟩:=eO (bE 0 hs k hk)
 exact jw ho h1 hk h2
section
variable {hs:List Int} {nd wr sz st ph:Int} {hon:List Int} {R:Int→List e7} {W:Int→List (List e7)} {l:List RP} (P:Played hs nd wr sz st ph hon R W l)
include P
theorem Played.verdict {v:Int×Int×Unit} (hv:v∈aS hs nd wr sz st ph l):∃(k:Nat) (T:List Int),k<hs.length∧T.Sublist hs∧(T.length:Int)=hs.length-wr∧yC (fU hs l) k T∧v=(hs.getD k 0,bits T,()):=by
 unfold aS at hv
 rw [if_pos P.tk.e] at hv
 obtain⟨k,h1,h2,h3⟩:=Es hv
 have hw:=P.wr0
 have hq:=P.tk.q1
 have hn:=P.nd2
 obtain⟨T,t1,t2,t3,t4⟩:=mW (es:=fU hs l) (k:=(k:Int)) (fun e he x hx=>((P.psok e he).2.2 x hx).1) hs [] ((hs.length:Int)-wr) (fun h hh=>(P.tk.hs12 h hh).1) (fun _ h=>by cases h) (by omega) (fun _ h=>by cases h) h2
 have t3:cl (fU hs l) (k:Int) hs 0 ((hs.length:Int)-wr)=bits T:=t3
 exact⟨k,T,h1,t1,t2,t4,by rw [h3,t3]⟩
theorem Played.row {k:Nat} (hk:k<hs.length) {T:List Int} (hT:T.Sublist hs) {h:Int} (hh:h∈hon):lU hs nd wr sz h (R h) (W h) (hs.getD k 0,bits T,())=
  if h∈T then(R h).getD k [] else yA wr sz (nd-1) (jV (bits T) ((W h).getD k []) (a5 h 0 hs)) (ja (bits T) ((W h).getD k []) (a5 h 0 hs)):=by
 unfold lU Yh
 rw [jJ P.tk.ho hk]
 have hb:((bits T)/2^h.toNat)%2=1↔h∈T:=by
  rw [pV (gQ T),fL]
  constructor
  ·rintro⟨a,a1,a2⟩
   have h1:=P.tk.hs12 a (hT.subset a1)
   have h2:=P.bd hh
   have:a=h:=by omega
   rw [←this];exact a1
  ·intro h;exact⟨_,h,rfl⟩
 by_cases e:h∈T
 ·rw [if_pos e,if_pos (hb.2 e)]
 ·rw [if_neg e,if_neg (fun g=>e (hb.1 g))]
theorem Played.dealer {v:Int×Int×Unit} (hv:v∈aS hs nd wr sz st ph l):∃ψ:Nat→List UInt8,∀b,b<sz.toNat→Go.Proofs.YtailffhfhekkpaaDoor.S62.sz (ψ b)≤(nd-1).toNat∧
  ∀h∈hon,(lU hs nd wr sz h (R h) (W h) v).length≠0→((lU hs nd wr sz h (R h) (W h) v).getD 0 []).getD b 0=aB (pt h) (ψ b):=by
 obtain⟨k,T,hk,hT,hl,hc,rfl⟩:=P.verdict hv
 refine⟨fun b=>O5 (tf hon T nd) (qs R hon T nd k b) (tf hon T nd).length,fun b hb=>⟨?_,fun h hh h0=> ?_⟩⟩
 ·have:=Gp (P.agr hk hT hl hc hb) _ (Nat.le_refl _)
  rw [P.ptsLen hT hl] at this ⊢
  exact this
 ·rw [P.row hk hT hh] at h0 ⊢
  by_cases e:h∈T
  ·rw [if_pos e] at h0 ⊢
   exact P.mine hk hT hl hc hb hh e
  ·rw [if_neg e] at h0 ⊢
   refine P.decoded hk hT hl hc hh ?_ hb
   refine Classical.byContradiction fun g=>h0 ?_
   rw [yA,if_neg g];rfl
theorem Played.found (hv0:∀h∈hon,∀k j:Nat,k<hs.length→j<hs.length→hs.getD j 0∈hon→hs.getD j 0≠h→((R (hs.getD j 0)).getD k []).length≠0→0<(((W h).getD k []).getD j []).length)
  {v:Int×Int×Unit} (hv:v∈aS hs nd wr sz st ph l) {h:Int} (hh:h∈hon):0<(lU hs nd wr sz h (R h) (W h) v).length:=by
 obtain⟨k,T,hk,hT,hl,hc,rfl⟩:=P.verdict hv
 rw [P.row hk hT hh]
 by_cases e:h∈T
 ·rw [if_pos e]
  have:=(P.agree hk hc hh hh e e).1
  omega
 ·rw [if_neg e,yA,if_pos (P.decodes hk hT hl hc hh e fun j j1 j2 j3 j4=>hv0 h hh k j hk j1 j2 j4 (P.agree hk hc j2 j2 j3 j3).1),List.length_map,List.length_range]
  have:=P.nd2
  omega
end
end
section
def Di (p:List UInt8) (L:List (List UInt8)):List UInt8:=L.foldl (fun p q=>bz p (0::q)) p
theorem sW:∀(L:List (List UInt8)) (p:List UInt8),aB 0 (Di p L)=aB 0 p
 |[],_=>rfl
 |q::L,p=>by
  show aB 0 (Di (bz p (0::q)) L)=_
  rw [sW L,dH]
  show aB 0 p^^^(aI _ 0^^^0)=_
  rw [bB];simp
theorem Fc (q:List UInt8):sz (0::q)≤sz q+1:=pp fun i hi=>by
 cases i with
 |zero=>rfl
 |succ i=>exact eJ q i (by omega)
theorem P5 (a b:List UInt8) (n:Nat) (ha:sz a≤n) (hb:sz b≤n):sz (bz a b)≤n:=pp fun i hi=>by
 rw [jR,eJ a i (by omega),eJ b i (by omega)];rfl
theorem Ar {n:Nat}:∀(L:List (List UInt8)) (p:List UInt8),sz p≤n→(∀q∈L,sz q+1≤n)→sz (Di p L)≤n
 |[],_,h,_=>h
 |q::L,p,h,hq=>Ar L _ (P5 _ _ _ h (Nat.le_trans (Fc q) (hq q List.mem_cons_self))) fun x hx=>hq x (List.mem_cons_of_mem _ hx)
theorem vJ {h:Int} {b N:Nat} (hb:b<N):∀(rows:List e7) (L:List (List UInt8)) (s p:List UInt8),s.length=N→s.getD b 0=aB (pt h) p→rows.length=L.length→(∀r∈rows,(r.getD 0 []).length=N)→
  (∀i:Nat,i<rows.length→((rows.getD i []).getD 0 []).getD b 0=aB (pt h) (L.getD i []))→(kq h s rows).length=N∧(kq h s rows).getD b 0=aB (pt h) (Di p L)
 |[], [],s,p,hs,hp,_,_,_=>⟨hs,hp⟩
 |[],_::_,_,_,_,_,hl,_,_=>by cases hl
 |_::_, [],_,_,_,_,hl,_,_=>by cases hl
 | r::rows,q::L,s,p,hs,hp,hl,hr,hq=>by
  have h1:(r.getD 0 []).length=N:=hr r List.mem_cons_self
  have h2:(r.getD 0 []).getD b 0=aB (pt h) q:=hq 0 (by simp)
  refine vJ hb rows L (eK s (cR (pt h) (r.getD 0 []))) (bz p (0::q)) (by rw [fa,cD];omega) ?_ (by simpa using hl) (fun x hx=>hr x (List.mem_cons_of_mem _ hx)) fun i hi=> ?_
  ·rw [lz (by rw [cD];omega) (by omega),kQ (by omega),hp,h2,dH]
   show _=_^^^(aI (aB (pt h) q) (pt h)^^^0)
   rw [bC (aB _ _)]
   simp
  ·have:=hq (i+1) (by rw [List.length_cons];omega)
   simpa using this
section
variable {hs:List Int} {nd wr sz st ph:Int} {hon:List Int} {R:Int→List e7} {W:Int→List (List e7)} {l:List RP} (P:Played hs nd wr sz st ph hon R W l)
include P
theorem Played.rowOk {v:Int×Int×Unit} {h:Int} (hh:h∈hon):qN nd sz (lU hs nd wr sz h (R h) (W h) v):=vj P.nd2.1 (by have:=P.sz1;omega) (P.ok h hh)
theorem Played.ends {h:Int} (hh:h∈hon) {sh:List UInt8} (hs':(sh.length:Int)=sz):j8 hs nd wr sz st ph h sh (R h) (W h) l=(if mj (rr hs nd wr sz st ph h (R h) (W h) l) then 0 else 17):=by
 unfold j8
 rw [if_pos P.tk.e]
 by_cases e:mj (rr hs nd wr sz st ph h (R h) (W h) l)
 ·rw [if_pos e,if_pos e]
  refine P0 P.nd2 (by have:=P.sz1;omega) (P.bd hh) hs' (fun r hr=> ?_) e
  obtain⟨v,_,rfl⟩:=List.mem_map.1 hr
  exact P.rowOk hh
 ·rw [if_neg e,if_neg e]
theorem Played.shares {key:List UInt8} (hkl:(key.length:Int)=sz) {sh:Int→List UInt8} (hsl:∀h∈hon,((sh h).length:Int)=sz)
  (hp:∀b,b<key.length→∃p:List UInt8,Go.Proofs.YtailffhfhekkpaaDoor.S62.sz p≤nd.toNat∧aB 0 p=key.getD b 0∧∀h∈hon,(sh h).getD b 0=aB (pt h) p):
  (∀h∈hon,j8 hs nd wr sz st ph h (sh h) (R h) (W h) l=0→(xy hs nd wr sz st ph h (sh h) (R h) (W h) l).length=key.length)∧
  ∀b,b<key.length→∃p:List UInt8,Go.Proofs.YtailffhfhekkpaaDoor.S62.sz p≤nd.toNat∧aB 0 p=key.getD b 0∧∀h∈hon,j8 hs nd wr sz st ph h (sh h) (R h) (W h) l=0→(xy hs nd wr sz st ph h (sh h) (R h) (W h) l).getD b 0=aB (pt h) p:=by
 have hz:=P.sz1
 have hn:=P.nd2
 have rws:∀h∈hon,j8 hs nd wr sz st ph h (sh h) (R h) (W h) l=0→∀v∈aS hs nd wr sz st ph l,(lU hs nd wr sz h (R h) (W h) v).length≠0:=fun h hh e v hv=>by
  rw [P.ends hh (hsl h hh)] at e
  split at e
  ·rename_i g
   have:=of_decide_eq_true (List.all_eq_true.1 g _ (List.mem_map.2 ⟨v,hv,rfl⟩))
   omega
  ·cases e
 have key2:∀b,b<key.length→∃L:List (List UInt8),L.length=(aS hs nd wr sz st ph l).length∧(∀q∈L,Go.Proofs.YtailffhfhekkpaaDoor.S62.sz q+1≤nd.toNat)∧
   ∀h∈hon,j8 hs nd wr sz st ph h (sh h) (R h) (W h) l=0→∀i:Nat,i<(aS hs nd wr sz st ph l).length→(((rr hs nd wr sz st ph h (R h) (W h) l).getD i []).getD 0 []).getD b 0=aB (pt h) (L.getD i []):=fun b hb=>by
  have ch:∀D:List (Int×Int×Unit),(∀v∈D,v∈aS hs nd wr sz st ph l)→∃L:List (List UInt8),L.length=D.length∧(∀q∈L,Go.Proofs.YtailffhfhekkpaaDoor.S62.sz q+1≤nd.toNat)∧
    ∀h∈hon,j8 hs nd wr sz st ph h (sh h) (R h) (W h) l=0→∀i:Nat,i<D.length→(((D.map (lU hs nd wr sz h (R h) (W h))).getD i []).getD 0 []).getD b 0=aB (pt h) (L.getD i []):=fun D=>by
   induction D with
   |nil=>intro _;exact⟨[],rfl,(fun _ h=>by cases h),fun _ _ _ i hi=>absurd hi (Nat.not_lt_zero i)⟩
   | cons v D ih=>
    intro hD
    obtain⟨L,l1,l2,l3⟩:=ih fun x hx=>hD x (List.mem_cons_of_mem _ hx)
    obtain⟨ψ,hψ⟩:=P.dealer (hD v List.mem_cons_self)
    obtain⟨s1,s2⟩:=hψ b (by omega)
    refine⟨ψ b::L,by rw [List.length_cons,List.length_cons,l1],fun q hq=> ?_,fun h hh e i hi=> ?_⟩
    ·rcases List.mem_cons.1 hq with rfl|hq
     ·omega
     ·exact l2 q hq
    ·cases i with
     |zero=>exact s2 h hh (rws h hh e v (hD v List.mem_cons_self))
     |succ i=>
      have:=l3 h hh e i (by rw [List.length_cons] at hi;omega)
      simpa using this
  exact ch _ fun _ h=>h
 have rl:∀h∈hon,j8 hs nd wr sz st ph h (sh h) (R h) (W h) l=0→∀r∈rr hs nd wr sz st ph h (R h) (W h) l,(r.getD 0 []).length=key.length:=fun h hh e r hr=>by
  obtain⟨v,hv,rfl⟩:=List.mem_map.1 hr
  obtain⟨r1,r2,_⟩:=pz hn hz (P.rowOk (v:=v) hh) (rws h hh e v hv)
  have:=r2 _ (bE [] _ 0 (by omega))
  omega
 have upd:∀b,b<key.length→∀L:List (List UInt8),L.length=(aS hs nd wr sz st ph l).length→∀p:List UInt8,∀h∈hon,(sh h).getD b 0=aB (pt h) p→j8 hs nd wr sz st ph h (sh h) (R h) (W h) l=0→
   (∀i:Nat,i<(aS hs nd wr sz st ph l).length→(((rr hs nd wr sz st ph h (R h) (W h) l).getD i []).getD 0 []).getD b 0=aB (pt h) (L.getD i []))→
   (xy hs nd wr sz st ph h (sh h) (R h) (W h) l).length=key.length∧(xy hs nd wr sz st ph h (sh h) (R h) (W h) l).getD b 0=aB (pt h) (Di p L):=fun b hb L hL p h hh hp e hq=>by
  have hfl:(rr hs nd wr sz st ph h (R h) (W h) l).length=(aS hs nd wr sz st ph l).length:=List.length_map ..
  unfold xy
  rw [if_pos e]
  exact vJ hb _ L _ p (by have:=hsl h hh;omega) hp (by rw [hfl,hL]) (rl h hh e) fun i hi=>hq i (by omega)
 refine⟨fun h hh e=> ?_,fun b hb=> ?_⟩
 ·have hk0:0<key.length:=by omega
  obtain⟨L,l1,_,l3⟩:=key2 0 hk0
  obtain⟨p,_,_,p3⟩:=hp 0 hk0
  exact(upd 0 hk0 L l1 p h hh (p3 h hh) e (l3 h hh e)).1
 ·obtain⟨L,l1,l2,l3⟩:=key2 b hb
  obtain⟨p,p1,p2,p3⟩:=hp b hb
  exact⟨Di p L,Ar L p p1 l2,by rw [sW,p2],fun h hh e=>(upd b hb L l1 p h hh (p3 h hh) e (l3 h hh e)).2⟩
end
end
section
section
variable {hs:List Int} {nd wr sz st ph:Int} {hon:List Int} {R:Int→List e7} {W:Int→List (List e7)} {l:List RP} (P:Played hs nd wr sz st ph hon R W l)
include P
theorem Played.counts {k:Nat} (hk:k<hs.length) (h1:∀a∈hon,((R a).getD k []).length≠0) (h2:∀a∈hon,∀b∈hon,dK ((R a).getD k []) b=dK ((R b).getD k []) a)
  (h3:∀a∈hon,∀j:Nat,j<hs.length→hs.getD j 0∈hon→hs.getD j 0≠a→0<(((W a).getD k []).getD j []).length):∃v∈aS hs nd wr sz st ph l,v.1=hs.getD k 0:=by
 have hm:=P.many
 have hw:=P.wr0
 have hl:((hon.take (hs.length-wr).toNat).length:Int)=hs.length-wr:=by
  have:=P.tk.q1
  have:=P.nd2
  rw [List.length_take]
  omega
 have hc:yC (fU hs l) k ([]++hon.take (hs.length-wr).toNat):=fun a ha=>by
  have ha:=List.mem_of_mem_take ha
  refine⟨_,P.post a ha,fun b hb=> ?_⟩
  have hb:=List.mem_of_mem_take hb
  obtain⟨j,j1,j2⟩:=List.mem_iff_getElem.1 (P.in hb)
  have j2:hs.getD j 0=b:=by rw [gD j1];exact j2
  rw [Int.toNat_natCast,←j2]
  refine Gr P.tk.hs12 (P.bd ha).1 hk j1 (h1 a ha) ?_
  by_cases e:hs.getD j 0=a
  ·exact .inl e
  ·refine .inr ⟨h3 a ha j j1 (by rw [j2];exact hb) e,?_⟩
   have h4:=h3 a ha j j1 (by rw [j2];exact hb) e
   rcases P.val a ha k j hk j1 (by rw [j2];exact hb) e with g|⟨_,g⟩
   ·rw [g] at h4;simp at h4
   ·rw [g]
    show dK ((R (hs.getD j 0)).getD k []) a=_
    rw [j2]
    exact h2 b hb a ha
 have:=kG (es:=fU hs l) (k:=(k:Int)) (fun e he x hx=>((P.psok e he).2.2 x hx).1) P.get (fun e he=>(P.psok e he).1.1) hs [] (hon.take (hs.length-wr).toNat) (fun h hh=>(P.tk.hs12 h hh).1) (fun _ h=>by cases h) ((List.take_sublist _ _).trans P.sub) hc
 rw [hl] at this
 have this:0≤cl (fU hs l) (k:Int) hs 0 ((hs.length:Int)-wr):=this
 refine⟨(hs.getD k 0,cl (fU hs l) (k:Int) hs 0 ((hs.length:Int)-wr),()),?_,rfl⟩
 unfold aS
 rw [if_pos P.tk.e]
 exact Ay this hk
end
end
abbrev gX:=Int×(List UInt8×(List e7×(List (List e7)×Unit)))
def jo (hs:List Int) (nd sz st ph:Int) (s:gX) (x:Ml×Int):gX:=
 (s.1,s.2.1,cZ hs nd sz st ph s.1 s.2.2.1 x.1.1 x.1.2.1 x.1.2.2.1 x.1.2.2.2.1 x.1.2.2.2.2.1 x.2,cq hs sz st ph s.1 s.2.2.2.1 x.1.1 x.1.2.1 x.1.2.2.1 x.1.2.2.2.1 x.1.2.2.2.2.1 x.2,())
def iT (hs:List Int) (nd sz st ph:Int) (es:List (Int×gX)) (x:Ml×Int):List (Int×gX):=
 match aa es x.1.2.2.1 with
 |some s=>cP es x.1.2.2.1 (jo hs nd sz st ph s x)
 |none=>es
def aM (hs:List Int) (nd sz st ph:Int) (es:List (Int×gX)) (D:List (Ml×Int)):List (Int×gX):=D.foldl (iT hs nd sz st ph) es
theorem fz {α:Type} (n m:Int) (x:α):∀es:List (Int×α),aa (cP es n x) m=if n=m then some x else aa es m
 |[]=>by
  simp only [cP,aa]
 | (a,y)::es=>by
  unfold cP
  split
  ·rename_i h
   subst h
   simp only [aa]
   split<;>rfl
  ·rename_i h
   simp only [aa]
   rw [fz n m x es]
   by_cases e:a=m
   ·rw [if_pos e,if_pos e,if_neg (by omega)]
   ·rw [if_neg e,if_neg e]
def lA (h:Int) (D:List (Ml×Int)):List (Ml×Int):=D.filter fun x=>decide (x.1.2.2.1=h)
theorem gw (hs:List Int) (nd sz st ph h:Int):∀(D:List (Ml×Int)) (es:List (Int×gX)),aa (aM hs nd sz st ph es D) h=(aa es h).map fun s=>(lA h D).foldl (jo hs nd sz st ph) s
 |[],es=>by
  show aa es h=_
  cases aa es h<;>rfl
 | x::D,es=>by
  show aa (aM hs nd sz st ph (iT hs nd sz st ph es x) D) h=_
  rw [gw hs nd sz st ph h D]
  unfold iT lA
  by_cases e:x.1.2.2.1=h
  ·rw [List.filter_cons_of_pos (by exact decide_eq_true e)]
   subst e
   cases hm:aa es x.1.2.2.1 with
   |none=>rw [hm];rfl
   |some s=>rw [fz,if_pos rfl];rfl
  ·rw [List.filter_cons_of_neg (by simpa using e)]
   cases hm:aa es x.1.2.2.1 with
   |none=>rfl
   |some s=>dsimp only;rw [fz,if_neg e]
theorem gk {α:Type} (l:List α) (i k:Nat) (a d:α):(l.set i a).getD k d=if i=k∧k<l.length then a else l.getD k d:=by
 rw [List.getD_eq_getElem?_getD,List.getD_eq_getElem?_getD,List.getElem?_set]
 by_cases e:i=k
 ·subst e
  by_cases h:i<l.length
  ·simp [h]
  ·simp [h]
 ·rw [if_neg e,if_neg (fun g=>e g.1)]
structure G1 (hs hon:List Int) (nd sz:Int) (rt:Nat→Int→e7) (h:Int) (sh:List UInt8) (s:gX):Prop where
 me:s.1=h
 shr:s.2.1=sh
 ok:SOk hs nd sz s.2.2.1 s.2.2.2.1
 rows:∀k:Nat,k<hs.length→hs.getD k 0∈hon→s.2.2.1.getD k []= []∨s.2.2.1.getD k []=rt k h
 vals:∀k j:Nat,k<hs.length→j<hs.length→hs.getD j 0∈hon→(s.2.2.2.1.getD k []).getD j []= []
structure G2 (hs hon:List Int) (nd sz:Int) (R0:Int→List e7) (h:Int) (sh:List UInt8) (s:gX):Prop where
 me:s.1=h
 shr:s.2.1=sh
 ok:SOk hs nd sz s.2.2.1 s.2.2.2.1
 rows:s.2.2.1=R0 h
 vals:∀k j:Nat,k<hs.length→j<hs.length→hs.getD j 0∈hon→hs.getD j 0≠h→
  (s.2.2.2.1.getD k []).getD j []= []∨(((R0 (hs.getD j 0)).getD k []).length≠0∧(s.2.2.2.1.getD k []).getD j []= [dK ((R0 (hs.getD j 0)).getD k []) h])
theorem mA {hs:List Int} {sz st ph me:Int} {W:List (List e7)} {mk f t d:Int} {ss:e7} {tick:Int} (k j:Nat):
  ((cq hs sz st ph me W mk f t d ss tick).getD k []).getD j []=(W.getD k []).getD j []∨(Gg hs sz st ph me W mk f t d ss tick∧(aj d hs 0).toNat=k∧(aj f hs 0).toNat=j∧((cq hs sz st ph me W mk f t d ss tick).getD k []).getD j []=ss):=by
 unfold cq
 split
 ·rename_i g
  rw [gk]
  split
  ·rename_i h1
   obtain⟨h1,h2⟩:=h1
   subst h1
   rw [gk]
   split
   ·rename_i h3
    exact .inr ⟨g,rfl,h3.1,rfl⟩
   ·exact .inl rfl
  ·exact .inl rfl
 ·exact .inl rfl
theorem tZ {hs:List Int} {nd sz st ph me:Int} {R:List e7} {mk f t d:Int} {ss:e7} {tick:Int} (k:Nat):
  (cZ hs nd sz st ph me R mk f t d ss tick).getD k []=R.getD k []∨(Gh hs nd sz st ph me R mk f t d ss tick∧(aj d hs 0).toNat=k∧(cZ hs nd sz st ph me R mk f t d ss tick).getD k []=ss):=by
 unfold cZ
 split
 ·rename_i g
  rw [gk]
  split
  ·rename_i h1
   exact .inr ⟨g,h1.1,rfl⟩
  ·exact .inl rfl
 ·exact .inl rfl
theorem pC {hs:List Int} {st me f t d tick:Int} (h:¬c6 hs st me f t d tick):f∈hs∧d∈hs∧hs.getD (aj f hs 0).toNat 0=f∧hs.getD (aj d hs 0).toNat 0=d∧t=me∧f≠me∧st≤tick:=by
 unfold c6 at h
 have h1:¬aj f hs 0<0:=fun g=>h (.inr (.inr (.inl g)))
 have h2:¬aj d hs 0<0:=fun g=>h (.inr (.inr (.inr (.inl g))))
 have f1:=(ig f hs 0 (by omega)).1 (by omega)
 have d1:=(ig d hs 0 (by omega)).1 (by omega)
 refine⟨f1,d1,(eO f1).2.2,(eO d1).2.2,?_,?_,?_⟩<;>omega
end Go.Proofs.YtailffhfhekkpaaDoor.S62c

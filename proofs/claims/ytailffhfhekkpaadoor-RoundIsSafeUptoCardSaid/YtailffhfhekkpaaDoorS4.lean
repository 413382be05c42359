/- Texts of this claim. -/
import Derived.Test.YtailffhfhekkpaaDoorS3
import Derived.Test.YtailffhfhekkpaaDoorS1
set_option linter.unusedVariables false
set_option linter.unusedSimpArgs false
namespace Go.Proofs.YtailffhfhekkpaaDoor.S62c
set_option maxHeartbeats 20000000
open Go Go.Proofs.YtailffhfhekkpaaDoor.Vc Go.Proofs
set_option maxRecDepth 100000
set_option linter.unusedVariables false
open Go.Proofs.YtailffhfhekkpaaDoor.S62
noncomputable def Qm:List V→Option (Prop×V×List Blk)
 |[.agg [.sl false (.int .i64) hs,.int .i64 nd,.int .i64 wr,.int .i64 sz,.int .i64 st,.int .i64 ph],.agg [.int .i64 me,.str sh,.sl false (.sl .str) rows,.sl false (.sl (.sl .str)) vals]]=>some (hs.length≤1000∧rows.length=hs.length∧vals.length=hs.length∧(∀x∈vals,x.length=hs.length)∧(∀x∈rows,x.length≤1048576)∧(∀x∈hs,0≤x∧x<12)∧0≤me∧me<12,.agg [.int .i64 (me),.sl true (.int .i64) (eN hs me rows vals)], [])
 |_=>none
theorem aBE (hs:List Int) (nd wr sz st ph me:Int) (sh:List UInt8) (rows:List (List (List UInt8))) (vals:List (List (List (List UInt8)))):bH (En Ug tys G6 ct) Tryd.f20 [.k,.d (.int .i64)] Qm [Lc hs nd wr sz st ph,Pt me sh rows vals]:=by
 rintro⟨hp0,hp1,hp2,(hp3:(∀x∈vals,x.length=hs.length)),(hp4:(∀x∈rows,x.length≤1048576)),(hp5:(∀x∈hs,0≤x∧x<12)),hp6,hp7⟩
 obtain⟨pm0,pm1⟩:=tc hp6 hp7
 refine⟨by kernel_rfl,⟨rfl,om ((0:Int)≤(hs.length:Int)),om ((hs.length:Int)≤(1000000000:Int))⟩,cO,5, [(2,.k),(3,.k),(4,.k),(5,.k),(21,.k),(22,.k)],fun nM vs H=>∃(k:Nat),k≤hs.length∧nM=hs.length-k∧vs= [.ptr 0 1 0 0,.ptr 1 1 0 0,.ptr 2 1 0 0,.ptr 3 1 0 0,.int .i64 (hs.length:Int),.int .i64 (k:Int)]∧H= [.cells [.sl false (.int .i64) hs,.int .i64 nd,.int .i64 wr,.int .i64 sz,.int .i64 st,.int .i64 ph],.cells [.int .i64 me,.str sh,.sl false (.sl .str) rows,.sl false (.sl (.sl .str)) vals],.cells [.int .i64 0,.nils],.cells [.int .i64 me,.own (.int .i64) 4],.row true (.int .i64) (ip 0 (da hs me rows vals) hs.length k)],⟨rfl,hs.length,0,by omega,by omega,rfl,by rw [rF];rfl⟩,?_⟩
 rintro nM vs H ⟨k,hc1_0,rfl,rfl,rfl⟩
 refine yn ((k:Int)<(hs.length:Int)) (fun h0=> ?_) fun h0=> ?_
 ·have hkl:k<hs.length:=by omega
  have hkm:=hp4 _ (bE [] rows k (by omega))
  have hkv:=hp3 _ (bE [] vals k (by omega))
  have hfl:=mR 0 (da hs me rows vals) hs.length k
  refine⟨gY,ix k rows.length,yn ((((rows.getD k []).length:Nat):Int)=0) (fun h1=> ?_) fun h1=> ?_⟩
  ·have hst:ip 0 (da hs me rows vals) hs.length (k+1)=ip 0 (da hs me rows vals) hs.length k:=Iw (by unfold da;rw [if_pos (by omega)])
   refine⟨ap (k+1),?_⟩
   exact⟨rfl,hs.length-(k+1),by omega,k+1,by omega,rfl,rfl,by rw [hst];rfl⟩
  ·have hst:ip 0 (da hs me rows vals) hs.length (k+1)=(ip 0 (da hs me rows vals) hs.length k).set k (od (vals.getD k []) (rows.getD k []) ((a5 me 0 hs).take (a5 me 0 hs).length) (1*2^me.toNat)):=by rw [←uY hkl,da,if_neg (by omega),List.take_length]
   refine⟨by kernel_rfl,⟨om ((0:Int)≤me),om (me≤(64:Int))⟩,ap ((1:Int)*2^me.toNat),ix k (ip 0 (da hs me rows vals) hs.length k).length,rfl,fY,rfl,rfl,rfl,rfl,rfl,rfl,trivial,rfl,rfl,rfl,rfl,rfl,rfl,rfl,⟨om (hs.length≤2000000),fun _ _=>rfl⟩,6, [(2,.k),(3,.k),(4,.k),(5,.k),(6,.k),(21,.k),(22,.k)],fun n vs H=>n≤(a5 me 0 hs).length∧vs= [.ptr 0 1 0 0,.ptr 1 1 0 0,.ptr 2 1 0 0,.ptr 3 1 0 0,.ptr 5 1 0 0,.int .i64 (hs.length:Int),.int .i64 (k:Int)]∧H= [.cells [.sl false (.int .i64) hs,.int .i64 nd,.int .i64 wr,.int .i64 sz,.int .i64 st,.int .i64 ph],.cells [.int .i64 me,.str sh,.sl false (.sl .str) rows,.sl false (.sl (.sl .str)) vals],.cells [.int .i64 0,.nils],.cells [.int .i64 me,.own (.int .i64) 4],.row true (.int .i64) ((ip 0 (da hs me rows vals) hs.length k).set k (od (vals.getD k []) (rows.getD k []) ((a5 me 0 hs).take n) (1*2^me.toNat))),.cells [.int .i64 (k:Int)]],⟨rfl,by omega,rfl,rfl⟩,?_,?_⟩
   ·rintro n vs H ⟨hc2_0,rfl,rfl⟩ hn2
    replace hn2:n<(a5 me 0 hs).length:=hn2
    obtain⟨i,hi,e1,e2,e3⟩:=fb hs 0 (bE (0,0) (a5 me 0 hs) n hn2)
    obtain⟨g0,g1⟩:=hp5 _ (bE 0 hs i hi)
    rw [←e2] at g0 g1
    obtain⟨q0,q1⟩:=tc g0 g1
    obtain⟨a0,a1⟩:=vD (vals.getD k []) (rows.getD k []) ((a5 me 0 hs).take n) (1*2^me.toNat) (by omega) (by omega) (fun p hp=>by obtain⟨i,hi,_,e2,_⟩:=fb hs 0 (List.mem_of_mem_take hp);rw [e2];exact hp5 _ (bE 0 hs i hi))
    have hgs:((ip 0 (da hs me rows vals) hs.length k).set k (od (vals.getD k []) (rows.getD k []) ((a5 me 0 hs).take n) (1*2^me.toNat))).getD k 0=od (vals.getD k []) (rows.getD k []) ((a5 me 0 hs).take n) (1*2^me.toNat):=by rw [gD (by rw [List.length_set];omega)];exact List.getElem_set_self ..
    have hsl:((ip 0 (da hs me rows vals) hs.length k).set k (od (vals.getD k []) (rows.getD k []) ((a5 me 0 hs).take n) (1*2^me.toNat))).length=hs.length:=by rw [List.length_set];exact hfl
    have hsn:=J7 (vals.getD k []) (rows.getD k []) (1*2^me.toNat) hn2
    refine⟨ix k rows.length,rfl,os ((rows.getD k []).length≤1048576),ix k vals.length,ix ((a5 me 0 hs).getD n (0,0)).1 (vals.getD k []).length,yn (0<((((vals.getD k []).getD ((((a5 me 0 hs).getD n (0,0)).1).toNat) []).length:Nat):Int)) (fun h2=> ?_) fun h2=> ?_⟩
    ·refine⟨ix 0 ((vals.getD k []).getD ((((a5 me 0 hs).getD n (0,0)).1).toNat) []).length,yn ((((vals.getD k []).getD ((((a5 me 0 hs).getD n (0,0)).1).toNat) []).getD 0 [])=(dK (rows.getD k []) (((a5 me 0 hs).getD n (0,0)).2))) (fun h3=> ?_) fun h3=> ?_⟩
     ·have hnx:(ip 0 (da hs me rows vals) hs.length k).set k (od (vals.getD k []) (rows.getD k []) ((a5 me 0 hs).take (n+1)) (1*2^me.toNat))=((ip 0 (da hs me rows vals) hs.length k).set k (od (vals.getD k []) (rows.getD k []) ((a5 me 0 hs).take n) (1*2^me.toNat))).set k (jY (((ip 0 (da hs me rows vals) hs.length k).set k (od (vals.getD k []) (rows.getD k []) ((a5 me 0 hs).take n) (1*2^me.toNat))).getD k 0) ((a5 me 0 hs).getD n (0,0)).2):=by rw [hgs,List.set_set,hsn,if_pos ⟨by omega,h3⟩]
      refine⟨by kernel_rfl,ix k ((ip 0 (da hs me rows vals) hs.length k).set k (od (vals.getD k []) (rows.getD k []) ((a5 me 0 hs).take n) (1*2^me.toNat))).length,⟨om ((0:Int)≤((a5 me 0 hs).getD n (0,0)).2),om (((a5 me 0 hs).getD n (0,0)).2≤(64:Int))⟩,ap ((1:Int)*2^((((a5 me 0 hs).getD n (0,0)).2).toNat)),.inl ⟨⟨om ((0:Int)≤(((ip 0 (da hs me rows vals) hs.length k).set k (od (vals.getD k []) (rows.getD k []) ((a5 me 0 hs).take n) (1*2^me.toNat))).getD k 0)),om ((0:Int)≤((1:Int)*2^((((a5 me 0 hs).getD n (0,0)).2).toNat)))⟩,?_⟩⟩
      refine⟨ix k ((ip 0 (da hs me rows vals) hs.length k).set k (od (vals.getD k []) (rows.getD k []) ((a5 me 0 hs).take n) (1*2^me.toNat))).length,rfl,fY,?_⟩
      exact⟨rfl,rfl,by omega,rfl,by rw [hnx];rfl⟩
     ·have hnx:(ip 0 (da hs me rows vals) hs.length k).set k (od (vals.getD k []) (rows.getD k []) ((a5 me 0 hs).take (n+1)) (1*2^me.toNat))=(ip 0 (da hs me rows vals) hs.length k).set k (od (vals.getD k []) (rows.getD k []) ((a5 me 0 hs).take n) (1*2^me.toNat)):=by rw [hsn,if_neg (fun g=>h3 g.2)]
      exact⟨rfl,rfl,by omega,rfl,by rw [hnx];rfl⟩
    ·have hnx:(ip 0 (da hs me rows vals) hs.length k).set k (od (vals.getD k []) (rows.getD k []) ((a5 me 0 hs).take (n+1)) (1*2^me.toNat))=(ip 0 (da hs me rows vals) hs.length k).set k (od (vals.getD k []) (rows.getD k []) ((a5 me 0 hs).take n) (1*2^me.toNat)):=by rw [hsn,if_neg (fun g=>h2 (by omega))]
     exact⟨rfl,rfl,by omega,rfl,by rw [hnx];rfl⟩
   ·rintro vs H ⟨hc2_0,rfl,rfl⟩
    refine⟨ap (k+1),?_⟩
    exact⟨rfl,hs.length-(k+1),by omega,k+1,by omega,rfl,rfl,by rw [hst];rfl⟩
 ·refine⟨cO,?_⟩
  rw [show eN hs me rows vals=ip 0 (da hs me rows vals) hs.length k by rw [eN,show k=hs.length by omega,uZ]]
  exact a6
noncomputable def Tq:List (Nat×bW):=(20,aW [.v yH,.v kr] Qm)::Ug
theorem aAS:Known Tryd.prog (En Tq tys G6 ct):=aAm.addQ Tryd.func20 Tryd.call20 [.k,.d (.int .i64)] fun ds _ _ _ h=>by unfold Qm at h;split at h;exact aBE _ _ _ _ _ _ _ _ _ _;cases h
noncomputable def Ql:List V→Option (Prop×V×List Blk)
 |[.agg [.sl false (.int .i64) hs,.int .i64 nd,.int .i64 wr,.int .i64 sz,.int .i64 st,.int .i64 ph],.agg [.int .i64 me,.str sh,.sl false (.sl .str) rows,.sl false (.sl (.sl .str)) vals],.agg [.int .i64 mk,.int .i64 mf,.int .i64 mt,.int .i64 md,.sl false .str ss],.int .i64 tick]=>some (fZ hs nd wr sz st ph=0∧rows.length=hs.length∧vals.length=hs.length∧(∀x∈vals,x.length=hs.length)∧(∀x∈rows,x.length≤1048576)∧ss.length≤1048576,.agg [.int .i64 (me),.str (sh),.sl false (.sl .str) (cZ hs nd sz st ph me rows mk mf mt md ss tick),.sl false (.sl (.sl .str)) (cq hs sz st ph me vals mk mf mt md ss tick)], [])
 |_=>none
theorem aBD (hs:List Int) (nd wr sz st ph me:Int) (sh:List UInt8) (rows:List (List (List UInt8))) (vals:List (List (List (List UInt8)))) (mk:Int) (mf:Int) (mt:Int) (md:Int) (ss:List (List UInt8)) (tick:Int):xY (En Tq tys G6 ct [1000002,10000139]) Tryd.f17 [.k,.k,.d (.sl .str),.d (.sl (.sl .str))] Ql [Lc hs nd wr sz st ph,Pt me sh rows vals,.agg [.int .i64 mk,.int .i64 mf,.int .i64 mt,.int .i64 md,.sl false .str ss],.int .i64 tick]:=by
 rintro⟨hp0,hp1,hp2,(hp3:(∀x∈vals,x.length=hs.length)),(hp4:(∀x∈rows,x.length≤1048576)),hp5⟩
 have hT:=E7 hp0
 have hl12:=hT.l12
 obtain⟨r1,r2,r3,⟨r4,r5⟩,⟨r6,r7⟩⟩:=hT.rg.1
 refine⟨by kernel_rfl,rfl,om (hs.length≤2000000),rfl,om (hs.length≤2000000),ny (mt≠me) (fun h0=> ?_) fun h0=> ?_⟩
 ·refine ny (mf=me) (fun h1=> ?_) fun h1=> ?_
  ·refine ny ((aj mf hs 0)<0) (fun h2=> ?_) fun h2=> ?_
   ·have if_:=uN h2
    refine ny ((aj md hs 0)<0) (fun h3=> ?_) fun h3=> ?_
    ·have id_:=uN h3
     have hkm:=hp4 _ (bE [] rows _ (show(aj md hs 0).toNat<rows.length by omega))
     have hkv:=hp3 _ (bE [] vals _ (show(aj md hs 0).toNat<vals.length by omega))
     refine yn (tick<st) (fun h4=> ?_) fun h4=> ?_
     ·refine⟨cO,?_⟩
      have e1:cZ hs nd sz st ph me rows mk mf mt md ss tick=rows:=if_neg (fun g=>by obtain⟨g1,g2,g3,g4,g5,g6⟩:=g;unfold c6 at g1;first|omega|exact h8 g5)
      have e2:cq hs sz st ph me vals mk mf mt md ss tick=vals:=if_neg (fun g=>by obtain⟨g1,g2,g3,g4,g5⟩:=g;unfold c6 at g1;first|omega|exact h12 g4)
      rw [e1,e2]
      exact a6
     ·refine yn (mk=1) (fun h5=> ?_) fun h5=> ?_
      ·refine yn (mf=md) (fun h6=> ?_) fun h6=> ?_
       ·refine⟨ix (aj md hs 0) rows.length,yn ((((rows.getD ((aj md hs 0).toNat) []).length:Nat):Int)=0) (fun h7=> ?_) fun h7=> ?_⟩
        ·refine⟨ap (nd-1),rfl,rfl,om (ss.length≤1048576),yn ((ss.length:Int)=(nd-1)∧¬∃x∈ss,(x.length:Int)≠sz) (fun h8=> ?_) fun h8=> ?_⟩
         ·refine⟨ap (st+ph),yn (tick<(st+ph)) (fun h9=> ?_) fun h9=> ?_⟩
          ·refine⟨⟨rfl,om ((0:Int)≤(rows.length:Int)),om ((rows.length:Int)≤(1000000000:Int))⟩,fY,⟨by show rows.length=(List.replicate rows.length []).length;first|omega|(simp only [List.length_replicate,Int.toNat_natCast];omega)|(simp only [List.length_replicate,Int.toNat_natCast];done),om (0<rows.length)⟩,om (ss.length≤1048576),ix (aj md hs 0) rows.length,⟨fun h=>(by first|rfl|cases h),rfl,rfl⟩,gY,cO,?_⟩
           have e1:cZ hs nd sz st ph me rows mk mf mt md ss tick=rows.set (aj md hs 0).toNat ss:=if_pos ⟨by unfold c6;omega,h5,h6,by omega,h8,h9⟩
           have e2:cq hs sz st ph me vals mk mf mt md ss tick=vals:=if_neg (fun g=>by obtain⟨g1,g2,g3,g4,g5⟩:=g;omega)
           rw [e1,e2]
           exact a6
          ·refine⟨cO,?_⟩
           have e1:cZ hs nd sz st ph me rows mk mf mt md ss tick=rows:=if_neg (fun g=>by obtain⟨g1,g2,g3,g4,g5,g6⟩:=g;unfold c6 at g1;first|omega|exact h8 g5)
           have e2:cq hs sz st ph me vals mk mf mt md ss tick=vals:=if_neg (fun g=>by obtain⟨g1,g2,g3,g4,g5⟩:=g;unfold c6 at g1;first|omega|exact h12 g4)
           rw [e1,e2]
           exact a6
         ·refine⟨cO,?_⟩
          have e1:cZ hs nd sz st ph me rows mk mf mt md ss tick=rows:=if_neg (fun g=>by obtain⟨g1,g2,g3,g4,g5,g6⟩:=g;unfold c6 at g1;first|omega|exact h8 g5)
          have e2:cq hs sz st ph me vals mk mf mt md ss tick=vals:=if_neg (fun g=>by obtain⟨g1,g2,g3,g4,g5⟩:=g;unfold c6 at g1;first|omega|exact h12 g4)
          rw [e1,e2]
          exact a6
        ·refine⟨cO,?_⟩
         have e1:cZ hs nd sz st ph me rows mk mf mt md ss tick=rows:=if_neg (fun g=>by obtain⟨g1,g2,g3,g4,g5,g6⟩:=g;unfold c6 at g1;first|omega|exact h8 g5)
         have e2:cq hs sz st ph me vals mk mf mt md ss tick=vals:=if_neg (fun g=>by obtain⟨g1,g2,g3,g4,g5⟩:=g;unfold c6 at g1;first|omega|exact h12 g4)
         rw [e1,e2]
         exact a6
       ·refine⟨cO,?_⟩
        have e1:cZ hs nd sz st ph me rows mk mf mt md ss tick=rows:=if_neg (fun g=>by obtain⟨g1,g2,g3,g4,g5,g6⟩:=g;unfold c6 at g1;first|omega|exact h8 g5)
        have e2:cq hs sz st ph me vals mk mf mt md ss tick=vals:=if_neg (fun g=>by obtain⟨g1,g2,g3,g4,g5⟩:=g;unfold c6 at g1;first|omega|exact h12 g4)
        rw [e1,e2]
        exact a6
      ·refine yn (mk=2) (fun h10=> ?_) fun h10=> ?_
       ·refine⟨ix (aj md hs 0) vals.length,ix (aj mf hs 0) (vals.getD ((aj md hs 0).toNat) []).length,yn (((((vals.getD ((aj md hs 0).toNat) []).getD ((aj mf hs 0).toNat) []).length:Nat):Int)=0) (fun h11=> ?_) fun h11=> ?_⟩
        ·refine⟨rfl,rfl,om (ss.length≤1048576),yn ((ss.length:Int)=1∧¬∃x∈ss,(x.length:Int)≠sz) (fun h12=> ?_) fun h12=> ?_⟩
         ·refine⟨ap (2*ph),ap (st+(2*ph)),yn (tick<(st+(2*ph))) (fun h13=> ?_) fun h13=> ?_⟩
          ·refine⟨by kernel_rfl,⟨rfl,om ((0:Int)≤(vals.length:Int)),om ((vals.length:Int)≤(1000000000:Int))⟩,⟨rfl,om ((0:Int)≤(vals.length:Int)),om ((vals.length:Int)≤(1000000000:Int))⟩,fY,⟨by show vals.length=(List.replicate vals.length []).length;first|omega|(simp only [List.length_replicate,Int.toNat_natCast];omega)|(simp only [List.length_replicate,Int.toNat_natCast];done),om (0<vals.length)⟩,ix (aj md hs 0) vals.length,fY,⟨by show(vals.getD ((aj md hs 0).toNat) []).length=(List.replicate vals.length []).length;first|omega|(simp only [List.length_replicate,Int.toNat_natCast];omega)|(simp only [List.length_replicate,Int.toNat_natCast];done),om (0<(vals.getD ((aj md hs 0).toNat) []).length)⟩,om (ss.length≤1048576),ix (aj mf hs 0) (vals.getD ((aj md hs 0).toNat) []).length,⟨fun h=>(by first|rfl|cases h),rfl,rfl⟩,ix (aj md hs 0) vals.length,⟨fun h=>(by first|rfl|cases h),rfl,rfl⟩,gY,cO,?_⟩
           have e1:cZ hs nd sz st ph me rows mk mf mt md ss tick=rows:=if_neg (fun g=>by obtain⟨g1,g2,g3,g4,g5,g6⟩:=g;omega)
           have e2:cq hs sz st ph me vals mk mf mt md ss tick=vals.set (aj md hs 0).toNat ((vals.getD (aj md hs 0).toNat []).set (aj mf hs 0).toNat ss):=if_pos ⟨by unfold c6;omega,h10,by omega,h12,h13⟩
           rw [e1,e2]
           exact a6
          ·refine⟨cO,?_⟩
           have e1:cZ hs nd sz st ph me rows mk mf mt md ss tick=rows:=if_neg (fun g=>by obtain⟨g1,g2,g3,g4,g5,g6⟩:=g;unfold c6 at g1;first|omega|exact h8 g5)
           have e2:cq hs sz st ph me vals mk mf mt md ss tick=vals:=if_neg (fun g=>by obtain⟨g1,g2,g3,g4,g5⟩:=g;unfold c6 at g1;first|omega|exact h12 g4)
           rw [e1,e2]
           exact a6
         ·refine⟨cO,?_⟩
          have e1:cZ hs nd sz st ph me rows mk mf mt md ss tick=rows:=if_neg (fun g=>by obtain⟨g1,g2,g3,g4,g5,g6⟩:=g;unfold c6 at g1;first|omega|exact h8 g5)
          have e2:cq hs sz st ph me vals mk mf mt md ss tick=vals:=if_neg (fun g=>by obtain⟨g1,g2,g3,g4,g5⟩:=g;unfold c6 at g1;first|omega|exact h12 g4)
          rw [e1,e2]
          exact a6
        ·refine⟨cO,?_⟩
         have e1:cZ hs nd sz st ph me rows mk mf mt md ss tick=rows:=if_neg (fun g=>by obtain⟨g1,g2,g3,g4,g5,g6⟩:=g;unfold c6 at g1;first|omega|exact h8 g5)
         have e2:cq hs sz st ph me vals mk mf mt md ss tick=vals:=if_neg (fun g=>by obtain⟨g1,g2,g3,g4,g5⟩:=g;unfold c6 at g1;first|omega|exact h12 g4)
         rw [e1,e2]
         exact a6
       ·refine⟨cO,?_⟩
        have e1:cZ hs nd sz st ph me rows mk mf mt md ss tick=rows:=if_neg (fun g=>by obtain⟨g1,g2,g3,g4,g5,g6⟩:=g;unfold c6 at g1;first|omega|exact h8 g5)
        have e2:cq hs sz st ph me vals mk mf mt md ss tick=vals:=if_neg (fun g=>by obtain⟨g1,g2,g3,g4,g5⟩:=g;unfold c6 at g1;first|omega|exact h12 g4)
        rw [e1,e2]
        exact a6
    ·refine⟨cO,?_⟩
     have e1:cZ hs nd sz st ph me rows mk mf mt md ss tick=rows:=if_neg (fun g=>by obtain⟨g1,g2,g3,g4,g5,g6⟩:=g;unfold c6 at g1;first|omega|exact h8 g5)
     have e2:cq hs sz st ph me vals mk mf mt md ss tick=vals:=if_neg (fun g=>by obtain⟨g1,g2,g3,g4,g5⟩:=g;unfold c6 at g1;first|omega|exact h12 g4)
     rw [e1,e2]
     exact a6
   ·refine⟨cO,?_⟩
    have e1:cZ hs nd sz st ph me rows mk mf mt md ss tick=rows:=if_neg (fun g=>by obtain⟨g1,g2,g3,g4,g5,g6⟩:=g;unfold c6 at g1;first|omega|exact h8 g5)
    have e2:cq hs sz st ph me vals mk mf mt md ss tick=vals:=if_neg (fun g=>by obtain⟨g1,g2,g3,g4,g5⟩:=g;unfold c6 at g1;first|omega|exact h12 g4)
    rw [e1,e2]
    exact a6
  ·refine⟨cO,?_⟩
   have e1:cZ hs nd sz st ph me rows mk mf mt md ss tick=rows:=if_neg (fun g=>by obtain⟨g1,g2,g3,g4,g5,g6⟩:=g;unfold c6 at g1;first|omega|exact h8 g5)
   have e2:cq hs sz st ph me vals mk mf mt md ss tick=vals:=if_neg (fun g=>by obtain⟨g1,g2,g3,g4,g5⟩:=g;unfold c6 at g1;first|omega|exact h12 g4)
   rw [e1,e2]
   exact a6
 ·refine⟨cO,?_⟩
  have e1:cZ hs nd sz st ph me rows mk mf mt md ss tick=rows:=if_neg (fun g=>by obtain⟨g1,g2,g3,g4,g5,g6⟩:=g;unfold c6 at g1;first|omega|exact h8 g5)
  have e2:cq hs sz st ph me vals mk mf mt md ss tick=vals:=if_neg (fun g=>by obtain⟨g1,g2,g3,g4,g5⟩:=g;unfold c6 at g1;first|omega|exact h12 g4)
  rw [e1,e2]
  exact a6
noncomputable def Tp:List (Nat×bW):=(17,uM [.v yH,.v kr,.v dY,.v (.int .i64)] Ql)::Tq
theorem aAR:Known Tryd.prog (En Tp tys G6 ct):=Known.frz0<|(aAS.frz [1000002,10000139]).addR Tryd.func17 Tryd.call17 [.k,.k,.d (.sl .str),.d (.sl (.sl .str))] fun ds _ _ _ h=>by unfold Ql at h;split at h;exact aBD _ _ _ _ _ _ _ _ _ _ _ _ _ _ _ _;cases h
noncomputable def Q0:List V→Option (Prop×V×List Blk)
 |[.int .i64 e]=>some (True,.tup [.agg [.int .i64 0,.str ([]),.sl true (.sl .str) ([]),.sl true (.sl (.sl .str)) ([])],.sl true (.cons (.int .i64) (.cons (.int .i64) (.cons (.int .i64) (.cons (.int .i64) (.cons (.sl .str) .nil))))) ([]),.int .i64 (e)], [])
 |_=>none
theorem aBi (e:Int):bH (En Tp tys G6 ct) Tryd.f37 [.e [(2,(.sl .str)),(3,(.sl (.sl .str)))],.d dY,.k] Q0 [.int .i64 e]:=by
 intro _
 refine⟨cO,?_⟩
 exact a6
noncomputable def Uj:List (Nat×bW):=(37,aW [.v (.int .i64)] Q0)::Tp
theorem aAp:Known Tryd.prog (En Uj tys G6 ct):=aAR.addQ Tryd.func37 Tryd.call37 [.e [(2,(.sl .str)),(3,(.sl (.sl .str)))],.d dY,.k] fun ds _ _ _ h=>by unfold Q0 at h;split at h;exact aBi _;cases h
noncomputable def Q1:List V→Option (Prop×V×List Blk)
 |[.agg [.sl false (.int .i64) hs,.int .i64 nd,.int .i64 wr,.int .i64 sz,.int .i64 st,.int .i64 ph],.int .i64 me,.str sh,.str nz]=>some (hs.length≤1000∧(fZ hs nd wr sz st ph=0→nd≤7)∧sh.length≤1048576∧nz.length≤1048576,.tup [.agg [.int .i64 (xZ hs nd wr sz st ph me sh nz),.str (uy hs nd wr sz st ph me sh nz),.sl true (.sl .str) (mb hs nd wr sz st ph me sh nz),.sl true (.sl (.sl .str)) (oo hs nd wr sz st ph me sh nz)],.sl true (.cons (.int .i64) (.cons (.int .i64) (.cons (.int .i64) (.cons (.int .i64) (.cons (.sl .str) .nil))))) (uz hs nd wr sz st ph me sh nz),.int .i64 (dP hs nd wr sz st ph me sh nz)], [])
 |_=>none
theorem aBj (hs:List Int) (nd wr sz st ph me:Int) (sh nz:List UInt8):bH (En Uj tys G6 ct [10000075,9000087,7100120]) Tryd.f15 [.e [(2,(.sl .str)),(3,(.sl (.sl .str)))],.d dY,.k] Q1 [Lc hs nd wr sz st ph,.int .i64 me,.str sh,.str nz]:=by
 rintro⟨hp0,hp1,hp2,hp3⟩
 refine⟨rfl,rfl,rfl,rfl,rfl,om (hs.length≤2000000),yn ((fZ hs nd wr sz st ph)≠0) (fun h0=> ?_) fun h0=> ?_⟩
 ·refine⟨rfl,trivial,cO,?_⟩
  have e:dP hs nd wr sz st ph me sh nz=fZ hs nd wr sz st ph:=by unfold dP;rw [if_neg h0]
  obtain⟨e1,e2,e3,e4,e5⟩:=ma (show dP hs nd wr sz st ph me sh nz≠0 by rw [e];exact h0)
  rw [e1,e2,e3,e4,e5,e]
  exact a6
 ·have hT:=E7 (nw h0)
  have hl12:=hT.l12
  have hnd:=hp1 (nw h0)
  have hmx:=Hm nd sz hp3
  refine⟨rfl,om (hs.length≤2000000),yn ((aj me hs 0)<0) (fun h1=> ?_) fun h1=> ?_⟩
  ·refine⟨rfl,trivial,cO,?_⟩
   have e:dP hs nd wr sz st ph me sh nz=8:=by unfold dP;rw [if_pos (nw h0),if_pos h1]
   obtain⟨e1,e2,e3,e4,e5⟩:=ma (show dP hs nd wr sz st ph me sh nz≠0 by rw [e];decide)
   rw [e1,e2,e3,e4,e5,e]
   exact a6
  ·have hix:=uN h1
   refine⟨rfl,rfl,om (nd≤7),cO,ny ((oM nd sz nz)≠0) (fun h2=> ?_) fun h2=> ?_⟩
   ·refine yn ((sh.length:Int)≠sz) (fun h3=> ?_) fun h3=> ?_
    ·refine⟨rfl,trivial,cO,?_⟩
     have e:dP hs nd wr sz st ph me sh nz=1:=by unfold dP;rw [if_pos (nw h0),if_neg h1,if_neg (fun g=>h3 g.2)]
     obtain⟨e1,e2,e3,e4,e5⟩:=ma (show dP hs nd wr sz st ph me sh nz≠0 by rw [e];decide)
     rw [e1,e2,e3,e4,e5,e]
     exact a6
    ·have hrl:(List.replicate hs.length ([]:List (List UInt8))).length=hs.length:=List.length_replicate ..
     have hrl2:(List.replicate hs.length ([]:List (List (List UInt8)))).length=hs.length:=List.length_replicate ..
     refine⟨by kernel_rfl,⟨rfl,om ((0:Int)≤(hs.length:Int)),om ((hs.length:Int)≤(1000000000:Int))⟩,⟨rfl,om ((0:Int)≤(hs.length:Int)),om ((hs.length:Int)≤(1000000000:Int))⟩,cO,7, [(4,.k),(5,.k),(8,.k),(13,.k),(14,.k),(16,.k),(17,.k),(80,.k),(81,.k)],fun nM vs H=>∃(k:Nat),k≤hs.length∧nM=hs.length-k∧vs= [.ptr 0 1 0 0,.ptr 1 1 0 0,.ptr 2 1 0 0,.int .i64 (aj me hs 0),.ptr 3 1 0 0,.int .i64 (hs.length:Int),.ptr 5 1 0 0,.int .i64 (((List.replicate hs.length []).length:Nat):Int),.int .i64 (k:Int)]∧H= [.cells [.sl false (.int .i64) hs,.int .i64 nd,.int .i64 wr,.int .i64 sz,.int .i64 st,.int .i64 ph],.cells [.int .i64 me],.cells [.int .i64 0,.str ([]),.nils,.nils],.cells [.int .i64 (oj nd sz nz),.sl true (.sl .str) (kz nd sz nz)],.row true (.sl (.sl .str)) (ip [] (fun _=>List.replicate hs.length []) hs.length k),.cells [.int .i64 me,.str sh,.own (.sl .str) 6,.own (.sl (.sl .str)) 4],.row true (.sl .str) (List.replicate hs.length [])],⟨rfl,hs.length,0,by omega,by omega,rfl,by rw [rF];rfl⟩,?_⟩
     rintro nM vs H ⟨k,hc1_0,rfl,rfl,rfl⟩
     refine yn ((k:Int)<(((List.replicate hs.length []).length:Nat):Int)) (fun h4=> ?_) fun h4=> ?_
     ·have hst:ip [] (fun _=>List.replicate hs.length []) hs.length (k+1)=(ip [] (fun _=>List.replicate hs.length []) hs.length k).set k (List.replicate hs.length ([]:List (List UInt8))):=(uY (by omega)).symm
      have hfl:=mR [] (fun _=>List.replicate hs.length ([]:List (List UInt8))) hs.length k
      refine⟨by kernel_rfl,⟨rfl,om ((0:Int)≤(hs.length:Int)),om ((hs.length:Int)≤(1000000000:Int))⟩,ix k (ip [] (fun _=>List.replicate hs.length []) hs.length k).length,⟨fun h=>(by first|rfl|cases h),rfl,rfl⟩,ap (k+1),?_⟩
      exact⟨rfl,hs.length-(k+1),by omega,k+1,by omega,rfl,rfl,by rw [hst];rfl⟩
     ·refine⟨by kernel_rfl,rfl,rfl,⟨hmx.1,hmx.2⟩,ix (aj me hs 0) (List.replicate hs.length []).length,⟨fun h=>(by first|rfl|cases h),rfl,rfl⟩,rfl,rfl,rfl,rfl,rfl,rfl,trivial,rfl,rfl,rfl,rfl,rfl,rfl,rfl,⟨om (hs.length≤2000000),fun _ _=>rfl⟩,11, [(5,.k),(8,.k),(14,.k),(17,.k),(19,.c [(0,dY)])],fun n vs H=>n≤(a5 me 0 hs).length∧vs= [.ptr 1 1 0 0,.ptr 2 1 0 0,.ptr 3 1 0 0,.ptr 5 1 0 0,.ptr 7 1 0 0]∧H= [.cells [.sl false (.int .i64) hs,.int .i64 nd,.int .i64 wr,.int .i64 sz,.int .i64 st,.int .i64 ph],.cells [.int .i64 me],.cells [.int .i64 0,.str ([]),.nils,.nils],.cells [.int .i64 (oj nd sz nz),.sl true (.sl .str) (kz nd sz nz)],.row true (.sl (.sl .str)) (ip [] (fun _=>List.replicate hs.length []) hs.length k),.cells [.int .i64 me,.str sh,.own (.sl .str) 6,.own (.sl (.sl .str)) 4],.row true (.sl .str) ((List.replicate hs.length []).set ((aj me hs 0).toNat) (dZ (oj nd sz nz) (kz nd sz nz) me)),.cells [.own dY 10],.dead,.dead,.row true dY (rW hs nd sz me nz n)],⟨rfl,by omega,rfl,rfl⟩,?_,?_⟩
      ·rintro n vs H ⟨hc2_0,rfl,rfl⟩ hn2
       replace hn2:n<(a5 me 0 hs).length:=hn2
       have hbl:=rV hs nd sz me nz n
       refine⟨rfl,rfl,⟨hmx.1,hmx.2⟩,rfl,rfl,rfl,rfl,fY,l9 (rW hs nd sz me nz n).length,gY,?_⟩
       exact⟨rfl,rfl,by omega,rfl,by rw [Eb hn2];rfl⟩
      ·rintro vs H ⟨hc2_0,rfl,rfl⟩
       refine⟨by kernel_rfl,cO,?_⟩
       have e:dP hs nd wr sz st ph me sh nz=0:=by unfold dP;rw [if_pos (nw h0),if_neg h1,if_pos ⟨nw h2,nw h3⟩]
       obtain⟨e1,e2,e3,e4,e5⟩:=ng e
       have e6:oo hs nd wr sz st ph me sh nz=ip [] (fun _=>List.replicate hs.length []) hs.length k:=e4.trans (by rw [show k=hs.length by omega,D5])
       rw [e1,e2,e3,e6,e5,e]
       exact a6
   ·refine⟨rfl,trivial,cO,?_⟩
    have e:dP hs nd wr sz st ph me sh nz=1:=by unfold dP;rw [if_pos (nw h0),if_neg h1,if_neg (fun g=>h2 g.1)]
    obtain⟨e1,e2,e3,e4,e5⟩:=ma (show dP hs nd wr sz st ph me sh nz≠0 by rw [e];decide)
    rw [e1,e2,e3,e4,e5,e]
    exact a6
noncomputable def Oi:List (Nat×bW):=(15,aW [.v yH,.v (.int .i64),.v .str,.v .str] Q1)::Uj
theorem aAq:Known Tryd.prog (En Oi tys G6 ct):=Known.frz0<|(aAp.frz [10000075,9000087,7100120]).addQ Tryd.func15 Tryd.call15 [.e [(2,(.sl .str)),(3,(.sl (.sl .str)))],.d dY,.k] fun ds _ _ _ h=>by unfold Q1 at h;split at h;exact aBj _ _ _ _ _ _ _ _ _;cases h
open Go Go.Proofs.YtailffhfhekkpaaDoor.Vc Go.Proofs Go.Proofs.YtailffhfhekkpaaDoor.S62
theorem zk {hs:List Int} {wr:Int} {es:Ps} {v:Int×Int×Unit}:∀k,k≤hs.length→v∈nv hs wr es k→v.1∈hs
 |0,_,h=>by simp [nv] at h
 | k+1,hk,h=>by
  rw [nv] at h
  rcases List.mem_append.1 h with h|h
  ·exact zk k (by omega) h
  ·unfold Lk at h
   split at h
   ·simp only [List.mem_singleton] at h
    subst h
    exact bE 0 hs k (by omega)
   ·cases h
theorem Ng {hs:List Int} {nd wr sz st ph:Int} {l:List RP} {v:Int×Int×Unit} (h:v∈aS hs nd wr sz st ph l):v.1∈hs:=by
 unfold aS at h
 split at h
 ·exact zk _ (Nat.le_refl _) h
 ·cases h
theorem ui (hs:List Int) (nd wr sz st ph:Int) (l:List RP):(aS hs nd wr sz st ph l).length≤hs.length:=by
 unfold aS
 split
 ·exact tP ..
 ·exact Nat.zero_le _
instance decMl1:DecidableEq (List (List UInt8)×Unit):=inferInstance
instance decMl2:DecidableEq (Int×(List (List UInt8)×Unit)):=inferInstance
instance decMl3:DecidableEq (Int×(Int×(List (List UInt8)×Unit))):=inferInstance
instance decMl4:DecidableEq (Int×(Int×(Int×(List (List UInt8)×Unit)))):=inferInstance
instance decMl5:DecidableEq Ml:=inferInstanceAs (DecidableEq (Int×(Int×(Int×(Int×(List (List UInt8)×Unit))))))
instance (e:Int×List Int) (k set h:Int):Decidable (zN e k set h):=by unfold zN;infer_instance
def Iv (es:Ps) (k set h:Int):Bool:=match aa es h with
 |none=>false
 |some ag=>decide ((((ag.getD k.toNat 0).toNat&&&(jY set h).toNat:Nat):Int)=jY set h)&&es.all fun e=>decide (¬zN e k set h)
theorem sx {es:Ps} {k set h:Int}:Iv es k set h=true↔fits es k set h:=by
 unfold Iv fits
 cases hm:aa es h with
 |none=>exact⟨fun g=>Bool.noConfusion g,fun⟨_,g,_⟩=>by cases g⟩
 |some ag=>
  rw [Bool.and_eq_true,decide_eq_true_iff,List.all_eq_true]
  exact⟨fun⟨g1,g2⟩=>⟨ag,rfl,g1,fun e he=>of_decide_eq_true (g2 e he)⟩,fun⟨a,e,g1,g2⟩=>by cases e;exact⟨g1,fun e he=>decide_eq_true (g2 e he)⟩⟩
def No (es:Ps) (k:Int):List Int→Int→Int→Int
 |[],set,more=>if more=0 then set else -1
 |h::l,set,more=>if more=0 then set else if Iv es k set h=true then(if 0≤No es k l (jY set h) (more-1) then No es k l (jY set h) (more-1) else No es k l set more) else No es k l set more
theorem So (es:Ps) (k:Int):∀(l:List Int) (set more:Int),cl es k l set more=No es k l set more
 |[],set,more=>by
  rw [cl,No]
 |a::l,set,more=>by
  rw [cl,No,So es k l,So es k l]
  by_cases h:more=0
  ·repeat rw [if_pos h]
  repeat rw [if_neg h]
  by_cases g:fits es k set a
  ·rw [if_pos g,if_pos (sx.2 g)]
  ·rw [if_neg g,if_neg (fun h=>g (sx.1 h))]
def Q3 (hs:List Int) (es:Ps) (p:RP):Ps:=
 if aa es p.1=none∧(¬∃x∈p.2.1,eI (i5 hs) x)∧(p.2.1.length:Int)=(hs.length:Int)∧p.1∈hs then cP es p.1 p.2.1 else es
theorem Vy (hs:List Int):fB hs=Q3 hs:=by
 funext es p
 unfold fB Q3
 by_cases h:aa es p.1=none∧(¬∃x∈p.2.1,eI (i5 hs) x)∧(p.2.1.length:Int)=(hs.length:Int)∧p.1∈hs
 ·repeat rw [if_pos h]
 ·repeat rw [if_neg h]
def Yf (hs:List Int) (wr:Int) (es:Ps):Nat→List (Int×Int×Unit)
 |0=> []
 |k+1=>Yf hs wr es k++(if 0≤No es (k:Int) (hs.drop 0) 0 ((hs.length:Int)-wr) then [(hs.getD k 0,No es (k:Int) (hs.drop 0) 0 ((hs.length:Int)-wr),())] else [])
theorem Uu (hs:List Int) (wr:Int) (es:Ps):∀k,nv hs wr es k=Yf hs wr es k
 |0=>rfl
 |k+1=>by rw [nv,Yf,Uu hs wr es k,Lk,So]
def Sc (hs:List Int) (nd wr sz st ph:Int) (l:List RP):List (Int×Int×Unit):=
 if fZ hs nd wr sz st ph=0 then Yf hs wr (l.foldl (Q3 hs) []) hs.length else []
theorem s6 (hs:List Int) (nd wr sz st ph:Int) (l:List RP):aS hs nd wr sz st ph l=Sc hs nd wr sz st ph l:=by
 unfold aS Sc fU
 rw [Uu,Vy]
section
def rx (set:Int) (vk:List (List (List UInt8))) (p:Int×Int):Bool:=decide ((set/2^p.2.toNat)%2=1∧0<(vk.getD p.1.toNat []).length)
def jV (set:Int) (vk:List (List (List UInt8))) (l:List (Int×Int)):List UInt8:=(l.filter (rx set vk)).map fun p=>UInt8.ofNat ((p.2+1)%256).toNat
def ja (set:Int) (vk:List (List (List UInt8))) (l:List (Int×Int)):List (List UInt8):=(l.filter (rx set vk)).map fun p=>(vk.getD p.1.toNat []).getD 0 []
theorem Ni {set:Int} {vk:List (List (List UInt8))} {l:List (Int×Int)} {n:Nat} (h:n<l.length) (hi:rx set vk (l.getD n (0,0))=true):jV set vk (l.take (n+1))=jV set vk (l.take n)++ [UInt8.ofNat (((l.getD n (0,0)).2+1)%256).toNat]:=by
 unfold jV
 rw [oC (0,0) l n h,List.filter_append,List.map_append,List.filter_cons_of_pos hi,List.filter_nil];rfl
theorem Nj {set:Int} {vk:List (List (List UInt8))} {l:List (Int×Int)} {n:Nat} (h:n<l.length) (hi:rx set vk (l.getD n (0,0))=true):ja set vk (l.take (n+1))=ja set vk (l.take n)++ [(vk.getD (l.getD n (0,0)).1.toNat []).getD 0 []]:=by
 unfold ja
 rw [oC (0,0) l n h,List.filter_append,List.map_append,List.filter_cons_of_pos hi,List.filter_nil];rfl
theorem Bn {set:Int} {vk:List (List (List UInt8))} {l:List (Int×Int)} {n:Nat} (h:n<l.length) (hi:¬rx set vk (l.getD n (0,0))=true):jV set vk (l.take (n+1))=jV set vk (l.take n)∧ja set vk (l.take (n+1))=ja set vk (l.take n):=by
 unfold jV ja
 rw [oC (0,0) l n h,List.filter_append,List.filter_cons_of_neg hi,List.filter_nil,List.append_nil]
 exact⟨rfl,rfl⟩
theorem pP (set:Int) (vk:List (List (List UInt8))) (l:List (Int×Int)):(jV set vk l).length≤l.length:=by
 unfold jV
 rw [List.length_map]
 exact List.length_filter_le ..
theorem pQ (set:Int) (vk:List (List (List UInt8))) (l:List (Int×Int)):(ja set vk l).length=(jV set vk l).length:=by
 unfold jV ja
 rw [List.length_map,List.length_map]
theorem Sg {set sz:Int} {vk:List (List (List UInt8))} {l:List (Int×Int)} (h:∀x∈vk,0<x.length→((x.getD 0 []).length:Int)=sz):∀v∈ja set vk l,(v.length:Int)=sz:=fun v hv=>by
 unfold ja at hv
 obtain⟨p,hp,rfl⟩:=List.mem_map.1 hv
 have hi:rx set vk p=true:=(List.mem_filter.1 hp).2
 have hi:=(of_decide_eq_true hi).2
 by_cases g:p.1.toNat<vk.length
 ·exact h _ (bE [] vk _ g) hi
 ·rw [List.getD_eq_getElem?_getD,List.getElem?_eq_none (by omega)] at hi
  exact absurd hi (by simp)
def x8 (vs:List (List UInt8)) (k:Nat):List UInt8:=vs.map fun v=>v.getD k 0
def Jb (xs:List UInt8) (vs:List (List UInt8)) (m w:Int) (k:Nat):List UInt8×List Int×Int:=kw xs (x8 vs k) (m-1) w
def Sj (xs:List UInt8) (vs:List (List UInt8)) (m w:Int) (k:Nat):List UInt8:=(Jb xs vs m w k).1++List.replicate m.toNat 0
def I8 (xs:List UInt8) (vs:List (List UInt8)) (m w:Int) (a n:Nat):List UInt8:=(List.range n).map fun k=>(Sj xs vs m w k).getD a 0
theorem I7 (xs:List UInt8) (vs:List (List UInt8)) (m w:Int) (a n:Nat):I8 xs vs m w a (n+1)=I8 xs vs m w a n++ [(Sj xs vs m w n).getD a 0]:=by
 unfold I8
 rw [List.range_succ,List.map_append];rfl
theorem Bo (xs:List UInt8) (vs:List (List UInt8)) (m w:Int) (a n:Nat):(I8 xs vs m w a n).length=n:=by
 unfold I8
 rw [List.length_map,List.length_range]
def D7 (wr m:Int) (xs:List UInt8):Int:=min wr (((xs.length:Int)-m)-wr)
def x9 (wr sz m:Int) (xs:List UInt8) (vs:List (List UInt8)):Prop:=m+wr≤(xs.length:Int)∧∀k:Nat,(k:Int)<sz→(Jb xs vs m (D7 wr m xs) k).2.2=0
open Classical in
noncomputable def yA (wr sz m:Int) (xs:List UInt8) (vs:List (List UInt8)):List (List UInt8):=
 if x9 wr sz m xs vs then(List.range m.toNat).map fun a=>I8 xs vs m (D7 wr m xs) a sz.toNat else []
theorem Nh {vs:List (List UInt8)} {k n:Nat} (h:n=vs.length):ip (0:UInt8) (fun i=>(vs.getD i []).getD k 0) n n=x8 vs k:=by
 subst h
 rw [uZ]
 unfold x8
 apply List.ext_getElem
 ·rw [List.length_map,List.length_map,List.length_range]
 ·intro i h1 h2
  rw [List.getElem_map,List.getElem_map,List.getElem_range]
  have hl:i<vs.length:=by simpa using h2
  rw [show vs.getD i []=vs[i] from gD hl]
end
end Go.Proofs.YtailffhfhekkpaaDoor.S62c

/- Texts of this claim. -/
import Derived.Test.YtogipicegdbhdaaDoorS4
import Derived.Test.YtogipicegdbhdaaDoorS1
set_option linter.unusedVariables false
set_option linter.unusedSimpArgs false
namespace Go.Proofs.YtogipicegdbhdaaDoor.S72d
set_option maxHeartbeats 20000000
open Go Go.Proofs.YtogipicegdbhdaaDoor.Vc Go.Proofs
set_option maxRecDepth 100000
set_option linter.unusedVariables false
open Go.Proofs.YtogipicegdbhdaaDoor.S72
open Go.Proofs.YtogipicegdbhdaaDoor.S72c (vJ zE fE)
noncomputable def Rz:List V→Option (Prop×V×List Blk)
 |[.agg [.sl false (.int .i64) hs,.int .i64 nd,.int .i64 wr,.int .i64 sz,.int .i64 st,.int .i64 ph],.agg [.int .i64 me,.str sh,.sl false (.sl .str) rows,.sl false (.sl (.sl .str)) vals],.agg [.int .i64 mk,.int .i64 mf,.int .i64 mt,.int .i64 md,.sl false .str ss],.int .i64 tick]=>some (ly hs nd wr sz st ph=0∧rows.length=hs.length∧vals.length=hs.length∧(∀x∈vals,x.length=hs.length)∧(∀x∈rows,x.length≤1048576)∧ss.length≤1048576,.agg [.int .i64 (me),.str (sh),.sl false (.sl .str) (dH hs nd sz st ph me rows mk mf mt md ss tick),.sl false (.sl (.sl .str)) (dR hs sz st ph me vals mk mf mt md ss tick)], [])
 |_=>none
theorem aB0 (hs:List Int) (nd wr sz st ph me:Int) (sh:List UInt8) (rows:List (List (List UInt8))) (vals:List (List (List (List UInt8)))) (mk:Int) (mf:Int) (mt:Int) (md:Int) (ss:List (List UInt8)) (tick:Int):tA (En Va tys G6 gI [1000002,10000139]) Tryd.f20 [.k,.k,.d (.sl .str),.d (.sl (.sl .str))] Rz [La hs nd wr sz st ph,V8 me sh rows vals,.agg [.int .i64 mk,.int .i64 mf,.int .i64 mt,.int .i64 md,.sl false .str ss],.int .i64 tick]:=by
 rintro⟨hp0,hp1,hp2,(hp3:(∀x∈vals,x.length=hs.length)),(hp4:(∀x∈rows,x.length≤1048576)),hp5⟩
 have hT:=P5 hp0
 have hl12:=hT.l12
 obtain⟨r1,r2,r3,⟨r4,r5⟩,⟨r6,r7⟩⟩:=hT.rg.1
 refine⟨by kernel_rfl,rfl,om (hs.length≤2000000),rfl,om (hs.length≤2000000),ny (mt≠me) (fun h0=> ?_) fun h0=> ?_⟩
 ·refine ny (mf=me) (fun h1=> ?_) fun h1=> ?_
  ·refine ny ((aZ mf hs 0)<0) (fun h2=> ?_) fun h2=> ?_
   ·have if_:=uP h2
    refine ny ((aZ md hs 0)<0) (fun h3=> ?_) fun h3=> ?_
    ·have id_:=uP h3
     have hkm:=hp4 _ (bc [] rows _ (show(aZ md hs 0).toNat<rows.length by omega))
     have hkv:=hp3 _ (bc [] vals _ (show(aZ md hs 0).toNat<vals.length by omega))
     refine yn (tick<st) (fun h4=> ?_) fun h4=> ?_
     ·refine⟨cm,?_⟩
      have e1:dH hs nd sz st ph me rows mk mf mt md ss tick=rows:=if_neg (fun g=>by obtain⟨g1,g2,g3,g4,g5,g6⟩:=g;unfold cw at g1;first|omega|exact h8 g5)
      have e2:dR hs sz st ph me vals mk mf mt md ss tick=vals:=if_neg (fun g=>by obtain⟨g1,g2,g3,g4,g5⟩:=g;unfold cw at g1;first|omega|exact h12 g4)
      rw [e1,e2]
      exact ao
     ·refine yn (mk=1) (fun h5=> ?_) fun h5=> ?_
      ·refine yn (mf=md) (fun h6=> ?_) fun h6=> ?_
       ·refine⟨ix (aZ md hs 0) rows.length,yn ((((rows.getD ((aZ md hs 0).toNat) []).length:Nat):Int)=0) (fun h7=> ?_) fun h7=> ?_⟩
        ·refine⟨aj (nd-1),rfl,rfl,om (ss.length≤1048576),yn ((ss.length:Int)=(nd-1)∧¬∃x∈ss,(x.length:Int)≠sz) (fun h8=> ?_) fun h8=> ?_⟩
         ·refine⟨aj (st+ph),yn (tick<(st+ph)) (fun h9=> ?_) fun h9=> ?_⟩
          ·refine⟨⟨rfl,om ((0:Int)≤(rows.length:Int)),om ((rows.length:Int)≤(1000000000:Int))⟩,fN,⟨by show rows.length=(List.replicate rows.length []).length;first|omega|(simp only [List.length_replicate,Int.toNat_natCast];omega)|(simp only [List.length_replicate,Int.toNat_natCast];done),om (0<rows.length)⟩,om (ss.length≤1048576),ix (aZ md hs 0) rows.length,⟨fun h=>(by first|rfl|cases h),rfl,rfl⟩,jP,cm,?_⟩
           have e1:dH hs nd sz st ph me rows mk mf mt md ss tick=rows.set (aZ md hs 0).toNat ss:=if_pos ⟨by unfold cw;omega,h5,h6,by omega,h8,h9⟩
           have e2:dR hs sz st ph me vals mk mf mt md ss tick=vals:=if_neg (fun g=>by obtain⟨g1,g2,g3,g4,g5⟩:=g;omega)
           rw [e1,e2]
           exact ao
          ·refine⟨cm,?_⟩
           have e1:dH hs nd sz st ph me rows mk mf mt md ss tick=rows:=if_neg (fun g=>by obtain⟨g1,g2,g3,g4,g5,g6⟩:=g;unfold cw at g1;first|omega|exact h8 g5)
           have e2:dR hs sz st ph me vals mk mf mt md ss tick=vals:=if_neg (fun g=>by obtain⟨g1,g2,g3,g4,g5⟩:=g;unfold cw at g1;first|omega|exact h12 g4)
           rw [e1,e2]
           exact ao
         ·refine⟨cm,?_⟩
          have e1:dH hs nd sz st ph me rows mk mf mt md ss tick=rows:=if_neg (fun g=>by obtain⟨g1,g2,g3,g4,g5,g6⟩:=g;unfold cw at g1;first|omega|exact h8 g5)
          have e2:dR hs sz st ph me vals mk mf mt md ss tick=vals:=if_neg (fun g=>by obtain⟨g1,g2,g3,g4,g5⟩:=g;unfold cw at g1;first|omega|exact h12 g4)
          rw [e1,e2]
          exact ao
        ·refine⟨cm,?_⟩
         have e1:dH hs nd sz st ph me rows mk mf mt md ss tick=rows:=if_neg (fun g=>by obtain⟨g1,g2,g3,g4,g5,g6⟩:=g;unfold cw at g1;first|omega|exact h8 g5)
         have e2:dR hs sz st ph me vals mk mf mt md ss tick=vals:=if_neg (fun g=>by obtain⟨g1,g2,g3,g4,g5⟩:=g;unfold cw at g1;first|omega|exact h12 g4)
         rw [e1,e2]
         exact ao
       ·refine⟨cm,?_⟩
        have e1:dH hs nd sz st ph me rows mk mf mt md ss tick=rows:=if_neg (fun g=>by obtain⟨g1,g2,g3,g4,g5,g6⟩:=g;unfold cw at g1;first|omega|exact h8 g5)
        have e2:dR hs sz st ph me vals mk mf mt md ss tick=vals:=if_neg (fun g=>by obtain⟨g1,g2,g3,g4,g5⟩:=g;unfold cw at g1;first|omega|exact h12 g4)
        rw [e1,e2]
        exact ao
      ·refine yn (mk=2) (fun h10=> ?_) fun h10=> ?_
       ·refine⟨ix (aZ md hs 0) vals.length,ix (aZ mf hs 0) (vals.getD ((aZ md hs 0).toNat) []).length,yn (((((vals.getD ((aZ md hs 0).toNat) []).getD ((aZ mf hs 0).toNat) []).length:Nat):Int)=0) (fun h11=> ?_) fun h11=> ?_⟩
        ·refine⟨rfl,rfl,om (ss.length≤1048576),yn ((ss.length:Int)=1∧¬∃x∈ss,(x.length:Int)≠sz) (fun h12=> ?_) fun h12=> ?_⟩
         ·refine⟨aj (2*ph),aj (st+(2*ph)),yn (tick<(st+(2*ph))) (fun h13=> ?_) fun h13=> ?_⟩
          ·refine⟨by kernel_rfl,⟨rfl,om ((0:Int)≤(vals.length:Int)),om ((vals.length:Int)≤(1000000000:Int))⟩,⟨rfl,om ((0:Int)≤(vals.length:Int)),om ((vals.length:Int)≤(1000000000:Int))⟩,fN,⟨by show vals.length=(List.replicate vals.length []).length;first|omega|(simp only [List.length_replicate,Int.toNat_natCast];omega)|(simp only [List.length_replicate,Int.toNat_natCast];done),om (0<vals.length)⟩,ix (aZ md hs 0) vals.length,fN,⟨by show(vals.getD ((aZ md hs 0).toNat) []).length=(List.replicate vals.length []).length;first|omega|(simp only [List.length_replicate,Int.toNat_natCast];omega)|(simp only [List.length_replicate,Int.toNat_natCast];done),om (0<(vals.getD ((aZ md hs 0).toNat) []).length)⟩,om (ss.length≤1048576),ix (aZ mf hs 0) (vals.getD ((aZ md hs 0).toNat) []).length,⟨fun h=>(by first|rfl|cases h),rfl,rfl⟩,ix (aZ md hs 0) vals.length,⟨fun h=>(by first|rfl|cases h),rfl,rfl⟩,jP,cm,?_⟩
           have e1:dH hs nd sz st ph me rows mk mf mt md ss tick=rows:=if_neg (fun g=>by obtain⟨g1,g2,g3,g4,g5,g6⟩:=g;omega)
           have e2:dR hs sz st ph me vals mk mf mt md ss tick=vals.set (aZ md hs 0).toNat ((vals.getD (aZ md hs 0).toNat []).set (aZ mf hs 0).toNat ss):=if_pos ⟨by unfold cw;omega,h10,by omega,h12,h13⟩
           rw [e1,e2]
           exact ao
          ·refine⟨cm,?_⟩
           have e1:dH hs nd sz st ph me rows mk mf mt md ss tick=rows:=if_neg (fun g=>by obtain⟨g1,g2,g3,g4,g5,g6⟩:=g;unfold cw at g1;first|omega|exact h8 g5)
           have e2:dR hs sz st ph me vals mk mf mt md ss tick=vals:=if_neg (fun g=>by obtain⟨g1,g2,g3,g4,g5⟩:=g;unfold cw at g1;first|omega|exact h12 g4)
           rw [e1,e2]
           exact ao
         ·refine⟨cm,?_⟩
          have e1:dH hs nd sz st ph me rows mk mf mt md ss tick=rows:=if_neg (fun g=>by obtain⟨g1,g2,g3,g4,g5,g6⟩:=g;unfold cw at g1;first|omega|exact h8 g5)
          have e2:dR hs sz st ph me vals mk mf mt md ss tick=vals:=if_neg (fun g=>by obtain⟨g1,g2,g3,g4,g5⟩:=g;unfold cw at g1;first|omega|exact h12 g4)
          rw [e1,e2]
          exact ao
        ·refine⟨cm,?_⟩
         have e1:dH hs nd sz st ph me rows mk mf mt md ss tick=rows:=if_neg (fun g=>by obtain⟨g1,g2,g3,g4,g5,g6⟩:=g;unfold cw at g1;first|omega|exact h8 g5)
         have e2:dR hs sz st ph me vals mk mf mt md ss tick=vals:=if_neg (fun g=>by obtain⟨g1,g2,g3,g4,g5⟩:=g;unfold cw at g1;first|omega|exact h12 g4)
         rw [e1,e2]
         exact ao
       ·refine⟨cm,?_⟩
        have e1:dH hs nd sz st ph me rows mk mf mt md ss tick=rows:=if_neg (fun g=>by obtain⟨g1,g2,g3,g4,g5,g6⟩:=g;unfold cw at g1;first|omega|exact h8 g5)
        have e2:dR hs sz st ph me vals mk mf mt md ss tick=vals:=if_neg (fun g=>by obtain⟨g1,g2,g3,g4,g5⟩:=g;unfold cw at g1;first|omega|exact h12 g4)
        rw [e1,e2]
        exact ao
    ·refine⟨cm,?_⟩
     have e1:dH hs nd sz st ph me rows mk mf mt md ss tick=rows:=if_neg (fun g=>by obtain⟨g1,g2,g3,g4,g5,g6⟩:=g;unfold cw at g1;first|omega|exact h8 g5)
     have e2:dR hs sz st ph me vals mk mf mt md ss tick=vals:=if_neg (fun g=>by obtain⟨g1,g2,g3,g4,g5⟩:=g;unfold cw at g1;first|omega|exact h12 g4)
     rw [e1,e2]
     exact ao
   ·refine⟨cm,?_⟩
    have e1:dH hs nd sz st ph me rows mk mf mt md ss tick=rows:=if_neg (fun g=>by obtain⟨g1,g2,g3,g4,g5,g6⟩:=g;unfold cw at g1;first|omega|exact h8 g5)
    have e2:dR hs sz st ph me vals mk mf mt md ss tick=vals:=if_neg (fun g=>by obtain⟨g1,g2,g3,g4,g5⟩:=g;unfold cw at g1;first|omega|exact h12 g4)
    rw [e1,e2]
    exact ao
  ·refine⟨cm,?_⟩
   have e1:dH hs nd sz st ph me rows mk mf mt md ss tick=rows:=if_neg (fun g=>by obtain⟨g1,g2,g3,g4,g5,g6⟩:=g;unfold cw at g1;first|omega|exact h8 g5)
   have e2:dR hs sz st ph me vals mk mf mt md ss tick=vals:=if_neg (fun g=>by obtain⟨g1,g2,g3,g4,g5⟩:=g;unfold cw at g1;first|omega|exact h12 g4)
   rw [e1,e2]
   exact ao
 ·refine⟨cm,?_⟩
  have e1:dH hs nd sz st ph me rows mk mf mt md ss tick=rows:=if_neg (fun g=>by obtain⟨g1,g2,g3,g4,g5,g6⟩:=g;unfold cw at g1;first|omega|exact h8 g5)
  have e2:dR hs sz st ph me vals mk mf mt md ss tick=vals:=if_neg (fun g=>by obtain⟨g1,g2,g3,g4,g5⟩:=g;unfold cw at g1;first|omega|exact h12 g4)
  rw [e1,e2]
  exact ao
noncomputable def U9:List (Nat×bI):=(20,uO [.v F7,.v sK,.v pC,.v (.int .i64)] Rz)::Va
theorem aBE:Known Tryd.prog (En U9 tys G6 gI):=Known.frz0<|(aBF.frz [1000002,10000139]).addR Tryd.func20 Tryd.call20 [.k,.k,.d (.sl .str),.d (.sl (.sl .str))] fun ds _ _ _ h=>by unfold Rz at h;split at h;exact aB0 _ _ _ _ _ _ _ _ _ _ _ _ _ _ _ _;cases h
noncomputable def So:List V→Option (Prop×V×List Blk)
 |[.int .i64 e]=>some (True,.tup [.agg [.int .i64 0,.str ([]),.sl true (.sl .str) ([]),.sl true (.sl (.sl .str)) ([])],.sl true (.cons (.int .i64) (.cons (.int .i64) (.cons (.int .i64) (.cons (.int .i64) (.cons (.sl .str) .nil))))) ([]),.int .i64 (e)], [])
 |_=>none
theorem aCS (e:Int):ap (En U9 tys G6 gI) Tryd.f50 [.e [(2,(.sl .str)),(3,(.sl (.sl .str)))],.d pC,.k] So [.int .i64 e]:=by
 intro _
 refine⟨cm,?_⟩
 exact ao
noncomputable def Vw:List (Nat×bI):=(50,aS [.v (.int .i64)] So)::U9
theorem aBb:Known Tryd.prog (En Vw tys G6 gI):=aBE.addQ Tryd.func50 Tryd.call50 [.e [(2,(.sl .str)),(3,(.sl (.sl .str)))],.d pC,.k] fun ds _ _ _ h=>by unfold So at h;split at h;exact aCS _;cases h
noncomputable def Sp:List V→Option (Prop×V×List Blk)
 |[.agg [.sl false (.int .i64) hs,.int .i64 nd,.int .i64 wr,.int .i64 sz,.int .i64 st,.int .i64 ph],.int .i64 me,.str sh,.str nz]=>some (hs.length≤1000∧(ly hs nd wr sz st ph=0→nd≤5)∧sh.length≤1048576∧nz.length≤1048576,.tup [.agg [.int .i64 (xf hs nd wr sz st ph me sh nz),.str (sB hs nd wr sz st ph me sh nz),.sl true (.sl .str) (ov hs nd wr sz st ph me sh nz),.sl true (.sl (.sl .str)) (ou hs nd wr sz st ph me sh nz)],.sl true (.cons (.int .i64) (.cons (.int .i64) (.cons (.int .i64) (.cons (.int .i64) (.cons (.sl .str) .nil))))) (ku hs nd wr sz st ph me sh nz),.int .i64 (c6 hs nd wr sz st ph me sh nz)], [])
 |_=>none
theorem aCT (hs:List Int) (nd wr sz st ph me:Int) (sh nz:List UInt8):ap (En Vw tys G6 gI [10000075,9000087,7100120]) Tryd.f21 [.e [(2,(.sl .str)),(3,(.sl (.sl .str)))],.d pC,.k] Sp [La hs nd wr sz st ph,.int .i64 me,.str sh,.str nz]:=by
 rintro⟨hp0,hp1,hp2,hp3⟩
 refine⟨rfl,rfl,rfl,rfl,rfl,om (hs.length≤2000000),yn ((ly hs nd wr sz st ph)≠0) (fun h0=> ?_) fun h0=> ?_⟩
 ·refine⟨rfl,trivial,cm,?_⟩
  have e:c6 hs nd wr sz st ph me sh nz=ly hs nd wr sz st ph:=by unfold c6;rw [if_neg h0]
  obtain⟨e1,e2,e3,e4,e5⟩:=mi (show c6 hs nd wr sz st ph me sh nz≠0 by rw [e];exact h0)
  rw [e1,e2,e3,e4,e5,e]
  exact ao
 ·have hT:=P5 (nw h0)
  have hl12:=hT.l12
  have hnd:=hp1 (nw h0)
  have hmx:=Ip nd sz hp3
  refine⟨rfl,om (hs.length≤2000000),yn ((aZ me hs 0)<0) (fun h1=> ?_) fun h1=> ?_⟩
  ·refine⟨rfl,trivial,cm,?_⟩
   have e:c6 hs nd wr sz st ph me sh nz=8:=by unfold c6;rw [if_pos (nw h0),if_pos h1]
   obtain⟨e1,e2,e3,e4,e5⟩:=mi (show c6 hs nd wr sz st ph me sh nz≠0 by rw [e];decide)
   rw [e1,e2,e3,e4,e5,e]
   exact ao
  ·have hix:=uP h1
   refine⟨rfl,rfl,om (nd≤6),cm,ny ((kp nd sz nz)≠0) (fun h2=> ?_) fun h2=> ?_⟩
   ·refine yn ((sh.length:Int)≠sz) (fun h3=> ?_) fun h3=> ?_
    ·refine⟨rfl,trivial,cm,?_⟩
     have e:c6 hs nd wr sz st ph me sh nz=1:=by unfold c6;rw [if_pos (nw h0),if_neg h1,if_neg (fun g=>h3 g.2)]
     obtain⟨e1,e2,e3,e4,e5⟩:=mi (show c6 hs nd wr sz st ph me sh nz≠0 by rw [e];decide)
     rw [e1,e2,e3,e4,e5,e]
     exact ao
    ·have hrl:(List.replicate hs.length ([]:List (List UInt8))).length=hs.length:=List.length_replicate ..
     have hrl2:(List.replicate hs.length ([]:List (List (List UInt8)))).length=hs.length:=List.length_replicate ..
     refine⟨by kernel_rfl,⟨rfl,om ((0:Int)≤(hs.length:Int)),om ((hs.length:Int)≤(1000000000:Int))⟩,⟨rfl,om ((0:Int)≤(hs.length:Int)),om ((hs.length:Int)≤(1000000000:Int))⟩,cm,7, [(4,.k),(5,.k),(8,.k),(13,.k),(14,.k),(16,.k),(17,.k),(80,.k),(81,.k)],fun nM vs H=>∃(k:Nat),k≤hs.length∧nM=hs.length-k∧vs= [.ptr 0 1 0 0,.ptr 1 1 0 0,.ptr 2 1 0 0,.int .i64 (aZ me hs 0),.ptr 3 1 0 0,.int .i64 (hs.length:Int),.ptr 5 1 0 0,.int .i64 (((List.replicate hs.length []).length:Nat):Int),.int .i64 (k:Int)]∧H= [.cells [.sl false (.int .i64) hs,.int .i64 nd,.int .i64 wr,.int .i64 sz,.int .i64 st,.int .i64 ph],.cells [.int .i64 me],.cells [.int .i64 0,.str ([]),.nils,.nils],.cells [.int .i64 (jL nd sz nz),.sl true (.sl .str) (fH nd sz nz)],.row true (.sl (.sl .str)) (iS [] (fun _=>List.replicate hs.length []) hs.length k),.cells [.int .i64 me,.str sh,.own (.sl .str) 6,.own (.sl (.sl .str)) 4],.row true (.sl .str) (List.replicate hs.length [])],⟨rfl,hs.length,0,by omega,by omega,rfl,by rw [rJ];rfl⟩,?_⟩
     rintro nM vs H ⟨k,hc1_0,rfl,rfl,rfl⟩
     refine yn ((k:Int)<(((List.replicate hs.length []).length:Nat):Int)) (fun h4=> ?_) fun h4=> ?_
     ·have hst:iS [] (fun _=>List.replicate hs.length []) hs.length (k+1)=(iS [] (fun _=>List.replicate hs.length []) hs.length k).set k (List.replicate hs.length ([]:List (List UInt8))):=(uY (by omega)).symm
      have hfl:=mW [] (fun _=>List.replicate hs.length ([]:List (List UInt8))) hs.length k
      refine⟨by kernel_rfl,⟨rfl,om ((0:Int)≤(hs.length:Int)),om ((hs.length:Int)≤(1000000000:Int))⟩,ix k (iS [] (fun _=>List.replicate hs.length []) hs.length k).length,⟨fun h=>(by first|rfl|cases h),rfl,rfl⟩,aj (k+1),?_⟩
      exact⟨rfl,hs.length-(k+1),by omega,k+1,by omega,rfl,rfl,by rw [hst];rfl⟩
     ·refine⟨by kernel_rfl,rfl,rfl,⟨hmx.1,hmx.2⟩,ix (aZ me hs 0) (List.replicate hs.length []).length,⟨fun h=>(by first|rfl|cases h),rfl,rfl⟩,rfl,rfl,rfl,rfl,rfl,rfl,trivial,rfl,rfl,rfl,rfl,rfl,rfl,rfl,⟨om (hs.length≤2000000),fun _ _=>rfl⟩,11, [(5,.k),(8,.k),(14,.k),(17,.k),(19,.c [(0,pC)])],fun n vs H=>n≤(bA me 0 hs).length∧vs= [.ptr 1 1 0 0,.ptr 2 1 0 0,.ptr 3 1 0 0,.ptr 5 1 0 0,.ptr 7 1 0 0]∧H= [.cells [.sl false (.int .i64) hs,.int .i64 nd,.int .i64 wr,.int .i64 sz,.int .i64 st,.int .i64 ph],.cells [.int .i64 me],.cells [.int .i64 0,.str ([]),.nils,.nils],.cells [.int .i64 (jL nd sz nz),.sl true (.sl .str) (fH nd sz nz)],.row true (.sl (.sl .str)) (iS [] (fun _=>List.replicate hs.length []) hs.length k),.cells [.int .i64 me,.str sh,.own (.sl .str) 6,.own (.sl (.sl .str)) 4],.row true (.sl .str) ((List.replicate hs.length []).set ((aZ me hs 0).toNat) (rowL (jL nd sz nz) (fH nd sz nz) me)),.cells [.own pC 10],.dead,.dead,.row true pC (rZ hs nd sz me nz n)],⟨rfl,by omega,rfl,rfl⟩,?_,?_⟩
      ·rintro n vs H ⟨hc2_0,rfl,rfl⟩ hn2
       replace hn2:n<(bA me 0 hs).length:=hn2
       have hbl:=kD hs nd sz me nz n
       refine⟨rfl,rfl,⟨hmx.1,hmx.2⟩,rfl,rfl,rfl,rfl,fN,l9 (rZ hs nd sz me nz n).length,jP,?_⟩
       exact⟨rfl,rfl,by omega,rfl,by rw [Eu hn2];rfl⟩
      ·rintro vs H ⟨hc2_0,rfl,rfl⟩
       refine⟨by kernel_rfl,cm,?_⟩
       have e:c6 hs nd wr sz st ph me sh nz=0:=by unfold c6;rw [if_pos (nw h0),if_neg h1,if_pos ⟨nw h2,nw h3⟩]
       obtain⟨e1,e2,e3,e4,e5⟩:=lh e
       have e6:ou hs nd wr sz st ph me sh nz=iS [] (fun _=>List.replicate hs.length []) hs.length k:=e4.trans (by rw [show k=hs.length by omega,Ek])
       rw [e1,e2,e3,e6,e5,e]
       exact ao
   ·refine⟨rfl,trivial,cm,?_⟩
    have e:c6 hs nd wr sz st ph me sh nz=1:=by unfold c6;rw [if_pos (nw h0),if_neg h1,if_neg (fun g=>h2 g.1)]
    obtain⟨e1,e2,e3,e4,e5⟩:=mi (show c6 hs nd wr sz st ph me sh nz≠0 by rw [e];decide)
    rw [e1,e2,e3,e4,e5,e]
    exact ao
noncomputable def Pz:List (Nat×bI):=(21,aS [.v F7,.v (.int .i64),.v .str,.v .str] Sp)::Vw
theorem aBc:Known Tryd.prog (En Pz tys G6 gI):=Known.frz0<|(aBb.frz [10000075,9000087,7100120]).addQ Tryd.func21 Tryd.call21 [.e [(2,(.sl .str)),(3,(.sl (.sl .str)))],.d pC,.k] fun ds _ _ _ h=>by unfold Sp at h;split at h;exact aCT _ _ _ _ _ _ _ _ _;cases h
open Go Go.Proofs.YtogipicegdbhdaaDoor.Vc Go.Proofs Go.Proofs.YtogipicegdbhdaaDoor.S72
theorem zr {hs:List Int} {wr:Int} {es:Ps} {v:Int×Int×Unit}:∀k,k≤hs.length→v∈pA hs wr es k→v.1∈hs
 |0,_,h=>by simp [pA] at h
 | k+1,hk,h=>by
  rw [pA] at h
  rcases List.mem_append.1 h with h|h
  ·exact zr k (by omega) h
  ·unfold P1 at h
   split at h
   ·simp only [List.mem_singleton] at h
    subst h
    exact bc 0 hs k (by omega)
   ·cases h
theorem Ol {hs:List Int} {nd wr sz st ph:Int} {l:List RP} {v:Int×Int×Unit} (h:v∈ac hs nd wr sz st ph l):v.1∈hs:=by
 unfold ac at h
 split at h
 ·exact zr _ (Nat.le_refl _) h
 ·cases h
theorem Om (hs:List Int) (nd wr sz st ph:Int) (l:List RP):(ac hs nd wr sz st ph l).length≤hs.length:=by
 unfold ac
 split
 ·exact tR ..
 ·exact Nat.zero_le _
instance decMl1:DecidableEq (List (List UInt8)×Unit):=inferInstance
instance decMl2:DecidableEq (Int×(List (List UInt8)×Unit)):=inferInstance
instance decMl3:DecidableEq (Int×(Int×(List (List UInt8)×Unit))):=inferInstance
instance decMl4:DecidableEq (Int×(Int×(Int×(List (List UInt8)×Unit)))):=inferInstance
instance decMl5:DecidableEq Ml:=inferInstanceAs (DecidableEq (Int×(Int×(Int×(Int×(List (List UInt8)×Unit))))))
instance (e:Int×List Int) (k set h:Int):Decidable (Ev e k set h):=by unfold Ev;infer_instance
section
def zR (set:Int) (vk:List (List (List UInt8))) (p:Int×Int):Bool:=decide ((set/2^p.2.toNat)%2=1∧0<(vk.getD p.1.toNat []).length)
def kq (set:Int) (vk:List (List (List UInt8))) (l:List (Int×Int)):List UInt8:=(l.filter (zR set vk)).map fun p=>UInt8.ofNat ((p.2+1)%256).toNat
def kr (set:Int) (vk:List (List (List UInt8))) (l:List (Int×Int)):List (List UInt8):=(l.filter (zR set vk)).map fun p=>(vk.getD p.1.toNat []).getD 0 []
theorem Oq {set:Int} {vk:List (List (List UInt8))} {l:List (Int×Int)} {n:Nat} (h:n<l.length) (hi:zR set vk (l.getD n (0,0))=true):kq set vk (l.take (n+1))=kq set vk (l.take n)++ [UInt8.ofNat (((l.getD n (0,0)).2+1)%256).toNat]:=by
 unfold kq
 rw [oI (0,0) l n h,List.filter_append,List.map_append,List.filter_cons_of_pos hi,List.filter_nil];rfl
theorem Ou {set:Int} {vk:List (List (List UInt8))} {l:List (Int×Int)} {n:Nat} (h:n<l.length) (hi:zR set vk (l.getD n (0,0))=true):kr set vk (l.take (n+1))=kr set vk (l.take n)++ [(vk.getD (l.getD n (0,0)).1.toNat []).getD 0 []]:=by
 unfold kr
 rw [oI (0,0) l n h,List.filter_append,List.map_append,List.filter_cons_of_pos hi,List.filter_nil];rfl
theorem Bu {set:Int} {vk:List (List (List UInt8))} {l:List (Int×Int)} {n:Nat} (h:n<l.length) (hi:¬zR set vk (l.getD n (0,0))=true):kq set vk (l.take (n+1))=kq set vk (l.take n)∧kr set vk (l.take (n+1))=kr set vk (l.take n):=by
 unfold kq kr
 rw [oI (0,0) l n h,List.filter_append,List.filter_cons_of_neg hi,List.filter_nil,List.append_nil]
 exact⟨rfl,rfl⟩
theorem um (set:Int) (vk:List (List (List UInt8))) (l:List (Int×Int)):(kq set vk l).length≤l.length:=by
 unfold kq
 rw [List.length_map]
 exact List.length_filter_le ..
theorem un (set:Int) (vk:List (List (List UInt8))) (l:List (Int×Int)):(kr set vk l).length=(kq set vk l).length:=by
 unfold kq kr
 rw [List.length_map,List.length_map]
theorem Ub {set sz:Int} {vk:List (List (List UInt8))} {l:List (Int×Int)} (h:∀x∈vk,0<x.length→((x.getD 0 []).length:Int)=sz):∀v∈kr set vk l,(v.length:Int)=sz:=fun v hv=>by
 unfold kr at hv
 obtain⟨p,hp,rfl⟩:=List.mem_map.1 hv
 have hi:zR set vk p=true:=(List.mem_filter.1 hp).2
 have hi:=(of_decide_eq_true hi).2
 by_cases g:p.1.toNat<vk.length
 ·exact h _ (bc [] vk _ g) hi
 ·rw [List.getD_eq_getElem?_getD,List.getElem?_eq_none (by omega)] at hi
  exact absurd hi (by simp)
def E8 (vs:List (List UInt8)) (k:Nat):List UInt8:=vs.map fun v=>v.getD k 0
def Mk (xs:List UInt8) (vs:List (List UInt8)) (m w:Int) (k:Nat):List UInt8×List Int×Int:=lX xs (E8 vs k) (m-1) w
def Ud (xs:List UInt8) (vs:List (List UInt8)) (m w:Int) (k:Nat):List UInt8:=(Mk xs vs m w k).1++List.replicate m.toNat 0
def Jx (xs:List UInt8) (vs:List (List UInt8)) (m w:Int) (a n:Nat):List UInt8:=(List.range n).map fun k=>(Ud xs vs m w k).getD a 0
theorem Jw (xs:List UInt8) (vs:List (List UInt8)) (m w:Int) (a n:Nat):Jx xs vs m w a (n+1)=Jx xs vs m w a n++ [(Ud xs vs m w n).getD a 0]:=by
 unfold Jx
 rw [List.range_succ,List.map_append];rfl
theorem Bv (xs:List UInt8) (vs:List (List UInt8)) (m w:Int) (a n:Nat):(Jx xs vs m w a n).length=n:=by
 unfold Jx
 rw [List.length_map,List.length_range]
def Ot (wr m:Int) (xs:List UInt8):Int:=min wr (((xs.length:Int)-m)-wr)
def zQ (wr sz m:Int) (xs:List UInt8) (vs:List (List UInt8)):Prop:=m+wr≤(xs.length:Int)∧∀k:Nat,(k:Int)<sz→(Mk xs vs m (Ot wr m xs) k).2.2=0
open Classical in
noncomputable def yA (wr sz m:Int) (xs:List UInt8) (vs:List (List UInt8)):List (List UInt8):=
 if zQ wr sz m xs vs then(List.range m.toNat).map fun a=>Jx xs vs m (Ot wr m xs) a sz.toNat else []
theorem Oo {vs:List (List UInt8)} {k n:Nat} (h:n=vs.length):iS (0:UInt8) (fun i=>(vs.getD i []).getD k 0) n n=E8 vs k:=by
 subst h
 rw [uZ]
 unfold E8
 apply List.ext_getElem
 ·rw [List.length_map,List.length_map,List.length_range]
 ·intro i h1 h2
  rw [List.getElem_map,List.getElem_map,List.getElem_range]
  have hl:i<vs.length:=by simpa using h2
  rw [show vs.getD i []=vs[i] from gD hl]
end
end Go.Proofs.YtogipicegdbhdaaDoor.S72d

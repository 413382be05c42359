/- Texts of this claim. -/
import Derived.Test.YtogipicegdbhdaaDoorS9
set_option linter.unusedVariables false
set_option linter.unusedSimpArgs false
namespace Go.Proofs.YtogipicegdbhdaaDoor.S72d
set_option maxHeartbeats 20000000
open Go Go.Proofs.YtogipicegdbhdaaDoor.Vc Go.Proofs
set_option maxRecDepth 100000
set_option linter.unusedVariables false
open Go.Proofs.YtogipicegdbhdaaDoor.S72
open Go.Proofs.YtogipicegdbhdaaDoor.S72c (vJ zE fE)
theorem bLWr (ct ns:List UInt8) (hs:List Int) (nd wr sz st ph:Int) (lo:List Bool) (se:Int) (ot:List UInt8) (hp0:hs.length≤1048576) (hp1:ct.length≤1048576) (hp2:ns.length≤1048576) (hp3:ot.length≤1048576) (hp4:0≤se) (hp5:se≤65535):bL (En Z7 tys G6 gI [6100019,1000010,1000002,12000181,12000202]) Tryd.f4 [.k] [.str ct,.str ns,La hs nd wr sz st ph,.sl false .bool lo,.int .u16 se,.str ot] (.b True) []:=by
 refine⟨trivial,fun h0=> ?_,cn (¬True)⟩
 refine⟨rfl,rfl,rfl,rfl,rfl,om (hs.length≤2000000),ny ((ly hs nd wr sz st ph)≠0) (fun h1=> ?_) fun h1=> ?_⟩
 ·have T0 := P5 (nw h1)
  have hn:=T0.rg.1.1
  have hz:=T0.rg.1.2.2.1
  obtain⟨hst0,hph0⟩:=T0.rg.1.2.2.2
  have hrt:=T0.rg.2
  refine ny (5<(hs.length:Int)) (fun h2=> ?_) fun h2=> ?_
  ·refine ny (4<sz) (fun h3=> ?_) fun h3=> ?_
   ·refine ny (sz≠(ct.length:Int)) (fun h4=> ?_) fun h4=> ?_
    ·refine ny ((ot.length:Int)≠(ct.length:Int)) (fun h5=> ?_) fun h5=> ?_
     ·refine ⟨aj (6*ph),aj (st+(6*ph)),yn (1000000<(st+(6*ph))) (fun h6=> ?_) fun h6=> ?_⟩
      ·exact ao
      ·have h5l:hs.length≤5:=by omega
       have h4z:sz≤4:=by omega
       have hkl:((cB ns (Int.toNat 0) (Int.toNat sz)).length:Int)=sz:=by rw [bb];omega
       obtain⟨nb1,nb2⟩:=Ig hn ⟨hz.1,h4z⟩
       have hS:Spl (cB ns (Int.toNat 0) (Int.toNat sz)) nd hs (cB ns (Int.toNat sz) (Int.toNat (sz*(nd-1)))):=Rl T0 hkl (by rw [bb];omega)
       have hcov:zS ct (cB ns (Int.toNat 0) (Int.toNat sz))=0:=if_pos (by omega)
       have hcs:(gR ct (cB ns (Int.toNat 0) (Int.toNat sz)))=cU ct (cB ns (Int.toNat 0) (Int.toNat sz)):=if_pos (by omega)
       have hcl:(gR ct (cB ns (Int.toNat 0) (Int.toNat sz))).length=ct.length:=by rw [hcs,cM];omega
       have hRw0:Rw hs nd wr sz st ph (cB ns (Int.toNat 0) (Int.toNat sz)) (jK (cB ns (Int.toNat 0) (Int.toNat sz)) nd hs (cB ns (Int.toNat sz) (Int.toNat (sz*(nd-1))))):=Rw.start T0 h5l h4z hkl hS
       have hnd5:nd≤5:=by have:=T0.q1;have:=T0.rg.1.2.1.1;omega
       refine⟨rfl,rfl,⟨by omega,by omega,om (0≤sz),om (sz≤1000000),om (ns.length≤1048576)⟩,⟨om (ct.length≤1048576),by show(cB ns (Int.toNat 0) (Int.toNat sz)).length≤1048576;rw [bb];omega⟩,by kernel_rfl,aj (nd-1),aj (sz*(nd-1)),rfl,rfl,⟨om (0≤sz),om (sz≤1000000),om (0≤(sz*(nd-1))),om ((sz*(nd-1))≤1000000),om (ns.length≤1048576)⟩,rfl,⟨by show(cB ns (Int.toNat 0) (Int.toNat sz)).length≤1048576;rw [bb];omega,om (hs.length≤1048576),by show(cB ns (Int.toNat sz) (Int.toNat (sz*(nd-1)))).length≤1048576;rw [bb];omega⟩,ny ((zS ct (cB ns (Int.toNat 0) (Int.toNat sz)))≠0) (fun h7=> ?_) fun h7=> ?_⟩
       ·refine yn ((gQ (cB ns (Int.toNat 0) (Int.toNat sz)) nd hs (cB ns (Int.toNat sz) (Int.toNat (sz*(nd-1)))))≠0) (fun h8=> ?_) fun h8=> ?_
        ·exact absurd hS.e h8
        ·refine⟨jP,2, [(0,.k),(1,.k),(4,.k),(5,.k),(8,.k),(14,.k),(15,.k),(17,.o (.cons (.int .i64) (.cons .str .nil))),(20,.c []),(133,.k)],fun nM vs H=>∃(a:Nat) (s:Int) (c:Int) (L:List gf),((a=0∧s+6*ph≤1000000)∨(a=1∧s+3*ph≤1000000)∨(a=2∧s≤1000000))∧(0≤s∧st≤s)∧(0≤c∧c≤1000*(a:Int))∧Rw hs nd wr sz st ph (cB ns (Int.toNat 0) (Int.toNat sz)) L∧nM=2-a∧vs= [.str ct,.str ns,.int .u16 se,.str ot,.ptr 0 1 0 0,.str (cB ns (Int.toNat 0) (Int.toNat sz)),.str (gR ct (cB ns (Int.toNat 0) (Int.toNat sz))),.own (.cons (.int .i64) (.cons .str .nil)) 2,.fn 19 [.ptr 1 1 0 0,.ptr 3 1 0 0,.ptr 0 1 0 0],.int .i64 (a:Int)]∧H= [.cells [.sl false (.int .i64) hs,.int .i64 nd,.int .i64 wr,.int .i64 sz,.int .i64 s,.int .i64 ph],.cells [.sl false .bool lo],.row true (.cons (.int .i64) (.cons .str .nil)) L,.cells [.int .i64 c]],⟨rfl,2,0,st,0,(jK (cB ns (Int.toNat 0) (Int.toNat sz)) nd hs (cB ns (Int.toNat sz) (Int.toNat (sz*(nd-1))))),.inl ⟨rfl,by omega⟩,⟨by omega,by omega⟩,⟨by omega,by omega⟩,hRw0,by omega,rfl,rfl⟩,?_⟩
         rintro nM vs H ⟨a,s,c,L,hc1_0,hc1_1,hc1_2,hc1_3,rfl,rfl,rfl⟩
         refine yn ((a:Int)<2) (fun h9=> ?_) fun h9=> ?_
         ·have T1:Tk hs nd wr sz s ph:=Fz T0 hc1_1.2 (by omega)
          have R:=hc1_3.to T1
          have hLl:=R.len
          have hcc:0≤c∧c≤10000:=⟨hc1_2.1,by omega⟩
          have hrw:(yf hs nd wr sz s ph ns (a:Int) L).length≤L.length*7:=(R.rwl (ns:=ns) (a:=(a:Int)) L.length).1
          have hvv:=R.vall (ns:=ns) (a:=(a:Int)) (lo:=lo) (c:=c)
          refine⟨aj (nd-1),5, [(0,.k),(1,.k),(4,.k),(5,.k),(8,.k),(14,.k),(15,.k),(17,.k),(20,.k),(21,.k),(22,.k),(23,.o pC),(24,.k),(25,.k),(133,.k),(140,.k),(141,.k),(142,.k)],fun nM vs H=>∃(k:Nat),k≤L.length∧nM=L.length-k∧vs= [.str ct,.str ns,.int .u16 se,.str ot,.ptr 0 1 0 0,.str (cB ns (Int.toNat 0) (Int.toNat sz)),.str (gR ct (cB ns (Int.toNat 0) (Int.toNat sz))),.own (.cons (.int .i64) (.cons .str .nil)) 2,.fn 19 [.ptr 1 1 0 0,.ptr 3 1 0 0,.ptr 0 1 0 0],.int .i64 (a:Int),.mp sK 4,.own pC 5,.nils,.int .i64 (nd-1),.int .i64 (a:Int),.own (.cons (.int .i64) (.cons .str .nil)) 2,.int .i64 (L.length:Int),.int .i64 (k:Int)]∧H= [.cells [.sl false (.int .i64) hs,.int .i64 nd,.int .i64 wr,.int .i64 sz,.int .i64 s,.int .i64 ph],.cells [.sl false .bool lo],.row true (.cons (.int .i64) (.cons .str .nil)) L,.cells [.int .i64 c],.imap false sK (Eo hs nd wr sz s ph L (y7 ns nd sz (a:Int)) k),.row true pC (xz hs nd wr sz s ph L (y7 ns nd sz (a:Int)) k)],⟨rfl,L.length,0,by omega,by omega,rfl,rfl⟩,?_⟩
          rintro nM vs H ⟨k,hc2_0,rfl,rfl,rfl⟩
          refine yn ((k:Int)<(L.length:Int)) (fun h10=> ?_) fun h10=> ?_
          ·have hkl1:k<L.length:=by omega
           obtain⟨m1,⟨m2,m3⟩,m4,m5⟩:=R.mem (ns:=ns) (a:=(a:Int)) hkl1
           have hel:=R.esl (ns:=ns) (a:=(a:Int)) k
           have hrl:=(R.rwl (ns:=ns) (a:=(a:Int)) k).1
           have hbl:(ku hs nd wr sz s ph ((L.getD k (0,([],()))).1) (((L.getD k (0,([],()))).2).1) (cB ns (Int.toNat ((3*(k:Int))+(a:Int))) (Int.toNat (((sz*(nd-1))*((nd-1)+1))/2)))).length≤5:=Nat.le_trans (O8 ..) h5l
           have hzl:=Ay (ns:=ns) (a:=(a:Int)) (k:=k) hn ⟨hz.1,h4z⟩
           refine⟨ix k L.length,cm,by kernel_rfl,aj (3*(k:Int)),aj ((3*(k:Int))+a),aj (sz*(nd-1)),aj ((nd-1)+1),aj ((sz*(nd-1))*((nd-1)+1)),.inl ⟨⟨om ((0:Int)≤((sz*(nd-1))*((nd-1)+1))),om ((0:Int)<2)⟩,?_⟩⟩
           refine⟨rfl,rfl,⟨om (0≤((3*(k:Int))+(a:Int))),om (((3*(k:Int))+(a:Int))≤1000000),om (0≤(((sz*(nd-1))*((nd-1)+1))/2)),om ((((sz*(nd-1))*((nd-1)+1))/2)≤1000000),om (ns.length≤1048576)⟩,rfl,rfl,rfl,rfl,rfl,rfl,⟨om (hs.length≤1000),(fun _=>hnd5),os ((((L.getD k (0,([],()))).2).1).length≤1048576),hzl⟩,cm,yn ((c6 hs nd wr sz s ph ((L.getD k (0,([],()))).1) (((L.getD k (0,([],()))).2).1) (cB ns (Int.toNat ((3*(k:Int))+(a:Int))) (Int.toNat (((sz*(nd-1))*((nd-1)+1))/2))))≠0) (fun h11=> ?_) fun h11=> ?_⟩
           ·exact absurd m5 h11
           ·refine⟨rfl,⟨rfl,om ((Eo hs nd wr sz s ph L (y7 ns nd sz (a:Int)) k).length≤1000000000)⟩,fN,om ((xz hs nd wr sz s ph L (y7 ns nd sz (a:Int)) k).length+(ku hs nd wr sz s ph ((L.getD k (0,([],()))).1) (((L.getD k (0,([],()))).2).1) (cB ns (Int.toNat ((3*(k:Int))+(a:Int))) (Int.toNat (((sz*(nd-1))*((nd-1)+1))/2)))).length≤1000000000),aj (k+1),?_⟩
            exact⟨rfl,L.length-(k+1),by omega,k+1,by omega,rfl,rfl,rfl⟩
          ·have hk:k=L.length:=by omega
           refine⟨fN,(by show tJ _ _ _ _ _ _ _ _ _;rw [hk];exact R.snd1 hcc),jP,6, [(0,.k),(1,.k),(4,.k),(5,.k),(8,.k),(14,.k),(15,.k),(17,.k),(20,.k),(22,.k),(24,.o pC),(133,.k),(187,.k),(188,.k),(189,.k)],fun nM vs H=>∃(j:Nat),j≤L.length∧nM=L.length-j∧vs= [.str ct,.str ns,.int .u16 se,.str ot,.ptr 0 1 0 0,.str (cB ns (Int.toNat 0) (Int.toNat sz)),.str (gR ct (cB ns (Int.toNat 0) (Int.toNat sz))),.own (.cons (.int .i64) (.cons .str .nil)) 2,.fn 19 [.ptr 1 1 0 0,.ptr 3 1 0 0,.ptr 0 1 0 0],.mp sK 4,.own pC 6,.int .i64 (a:Int),.own (.cons (.int .i64) (.cons .str .nil)) 2,.int .i64 (L.length:Int),.int .i64 (j:Int)]∧H= [.cells [.sl false (.int .i64) hs,.int .i64 nd,.int .i64 wr,.int .i64 sz,.int .i64 s,.int .i64 ph],.cells [.sl false .bool lo],.row true (.cons (.int .i64) (.cons .str .nil)) L,.cells [.int .i64 (c+((yf hs nd wr sz s ph ns (a:Int) L).length:Int))],.imap false sK (fP hs nd wr sz s ph ns (a:Int) lo c L),.dead,.row true pC (pg hs (fP hs nd wr sz s ph ns (a:Int) lo c L) ((L.map (·.1)).take j))],⟨rfl,L.length,0,by omega,by omega,rfl,by rw [hk];rfl⟩,?_⟩
           rintro nM vs H ⟨j,hc3_0,rfl,rfl,rfl⟩
           refine yn ((j:Int)<(L.length:Int)) (fun h12=> ?_) fun h12=> ?_
           ·have hkl:j<L.length:=by omega
            obtain⟨hs1,hs2,hso,hs4⟩:=(R.e1 (ns:=ns) (a:=(a:Int)) (lo:=lo) (c:=c)).at (R.has (ns:=ns) (a:=(a:Int)) (lo:=lo) (c:=c) hkl).1
            have hV:pg hs (fP hs nd wr sz s ph ns (a:Int) lo c L) ((L.map (·.1)).take (j+1))=pg hs (fP hs nd wr sz s ph ns (a:Int) lo c L) ((L.map (·.1)).take j)++dx hs ((aW (fP hs nd wr sz s ph ns (a:Int) lo c L) ((L.getD j (0,([],()))).1)).getD (0,([],([],([],()))))).1 ((aW (fP hs nd wr sz s ph ns (a:Int) lo c L) ((L.getD j (0,([],()))).1)).getD (0,([],([],([],()))))).2.2.1 hs.length:=Ra hkl
            have hvl:=R.val j (by omega) (fP hs nd wr sz s ph ns (a:Int) lo c L) (L.map (·.1))
            have hck:(dx hs ((aW (fP hs nd wr sz s ph ns (a:Int) lo c L) ((L.getD j (0,([],()))).1)).getD (0,([],([],([],()))))).1 ((aW (fP hs nd wr sz s ph ns (a:Int) lo c L) ((L.getD j (0,([],()))).1)).getD (0,([],([],([],()))))).2.2.1 hs.length).length≤49:=Nat.le_trans (mc ..) (Nat.mul_le_mul (show hs.length≤7 by omega) (show hs.length≤7 by omega))
            refine⟨ix j L.length,cm,rfl,rfl,rfl,rfl,rfl,rfl,rfl,⟨om (hs.length≤1000),hso.rl,hso.mxR (by omega)⟩,fN,om ((pg hs (fP hs nd wr sz s ph ns (a:Int) lo c L) ((L.map (·.1)).take j)).length+(dx hs (((aW (fP hs nd wr sz s ph ns (a:Int) lo c L) ((L.getD j (0,([],()))).1)).getD (0,([],([],([],()))))).1) (((((aW (fP hs nd wr sz s ph ns (a:Int) lo c L) ((L.getD j (0,([],()))).1)).getD (0,([],([],([],()))))).2).2).1) hs.length).length≤1000000000),aj (j+1),?_⟩
            exact⟨rfl,L.length-(j+1),by omega,j+1,by omega,rfl,rfl,by rw [hV];rfl⟩
           ·have hVa:pg hs (fP hs nd wr sz s ph ns (a:Int) lo c L) ((L.map (·.1)).take j)=(G9 hs nd wr sz s ph ns (a:Int) lo c L):=by rw [Bp (by omega)];rfl
            refine⟨aj (s+ph),fN,(by show tJ _ _ _ _ _ _ _ _ _;rw [hVa];exact R.snd2 hcc),jP,7, [(0,.k),(1,.k),(4,.k),(5,.k),(8,.k),(14,.k),(15,.k),(17,.k),(20,.k),(22,.k),(33,.o oo),(133,.k),(211,.k),(212,.k),(213,.k)],fun nM vs H=>∃(b:Nat),b≤L.length∧nM=L.length-b∧vs= [.str ct,.str ns,.int .u16 se,.str ot,.ptr 0 1 0 0,.str (cB ns (Int.toNat 0) (Int.toNat sz)),.str (gR ct (cB ns (Int.toNat 0) (Int.toNat sz))),.own (.cons (.int .i64) (.cons .str .nil)) 2,.fn 19 [.ptr 1 1 0 0,.ptr 3 1 0 0,.ptr 0 1 0 0],.mp sK 4,.own oo 7,.int .i64 (a:Int),.own (.cons (.int .i64) (.cons .str .nil)) 2,.int .i64 (L.length:Int),.int .i64 (b:Int)]∧H= [.cells [.sl false (.int .i64) hs,.int .i64 nd,.int .i64 wr,.int .i64 sz,.int .i64 s,.int .i64 ph],.cells [.sl false .bool lo],.row true (.cons (.int .i64) (.cons .str .nil)) L,.cells [.int .i64 ((c+((yf hs nd wr sz s ph ns (a:Int) L).length:Int))+((G9 hs nd wr sz s ph ns (a:Int) lo c L).length:Int))],.imap false sK (dG hs nd wr sz s ph ns (a:Int) lo c L),.dead,.dead,.row true oo (((L.map (·.1)).take b).map (wN hs (dG hs nd wr sz s ph ns (a:Int) lo c L)))],⟨rfl,L.length,0,by omega,by omega,rfl,by rw [hVa];rfl⟩,?_⟩
            rintro nM vs H ⟨b,hc4_0,rfl,rfl,rfl⟩
            refine yn ((b:Int)<(L.length:Int)) (fun h13=> ?_) fun h13=> ?_
            ·have hkl:b<L.length:=by omega
             obtain⟨hs1,hs2,hso,hs4⟩:=(R.e2 (ns:=ns) (a:=(a:Int)) (lo:=lo) (c:=c)).at (R.has (ns:=ns) (a:=(a:Int)) (lo:=lo) (c:=c) hkl).2
             have hPn:((L.map (·.1)).take (b+1)).map (wN hs (dG hs nd wr sz s ph ns (a:Int) lo c L))=((L.map (·.1)).take b).map (wN hs (dG hs nd wr sz s ph ns (a:Int) lo c L))++ [wN hs (dG hs nd wr sz s ph ns (a:Int) lo c L) (L.getD b (0,([],()))).1]:=S1 hkl
             have hql:(((L.map (·.1)).take b).map (wN hs (dG hs nd wr sz s ph ns (a:Int) lo c L))).length≤5:=by rw [List.length_map,List.length_take,List.length_map];omega
             obtain⟨hm0,hm1⟩:0≤((aW (dG hs nd wr sz s ph ns (a:Int) lo c L) ((L.getD b (0,([],()))).1)).getD (0,([],([],([],()))))).1∧((aW (dG hs nd wr sz s ph ns (a:Int) lo c L) ((L.getD b (0,([],()))).1)).getD (0,([],([],([],()))))).1<12:=by
              have:=T0.hs12 _ hs2
              rw [←hs1] at this
              exact this
             refine⟨ix b L.length,cm,rfl,rfl,rfl,rfl,rfl,rfl,rfl,⟨om (hs.length≤1000),hso.rl,hso.vl,hso.vv,hso.mxR (by omega),T0.hs12,hm0,hm1⟩,rfl,fN,l9 (((L.map (·.1)).take b).map (wN hs (dG hs nd wr sz s ph ns (a:Int) lo c L))).length,aj (b+1),?_⟩
             exact⟨rfl,L.length-(b+1),by omega,b+1,by omega,rfl,rfl,by rw [hPn];rfl⟩
            ·have hPl:((L.map (·.1)).take b).map (wN hs (dG hs nd wr sz s ph ns (a:Int) lo c L))=(Ai hs nd wr sz s ph ns (a:Int) lo c L):=by rw [Bp (by omega)];rfl
             have hP5:(Ai hs nd wr sz s ph ns (a:Int) lo c L).length≤5:=by rw [←hPl,List.length_map,List.length_take,List.length_map];omega
             have hpx:∀p∈(Ai hs nd wr sz s ph ns (a:Int) lo c L),p.2.1.length≤1048576:=Xs (by omega)
             refine⟨8, [(0,.k),(1,.k),(4,.k),(5,.k),(8,.k),(14,.k),(15,.k),(20,.k),(22,.k),(33,.k),(36,.o (.cons (.int .i64) (.cons .str .nil))),(133,.k),(227,.k),(228,.k),(229,.k)],fun nM vs H=>∃(q:Nat),q≤L.length∧nM=L.length-q∧vs= [.str ct,.str ns,.int .u16 se,.str ot,.p 0,.str (cB ns (Int.toNat 0) (Int.toNat sz)),.str (gR ct (cB ns (Int.toNat 0) (Int.toNat sz))),.fn 19 [.p 1,.p 3,.p 0],.mp sK 4,.own oo 7,.own (.cons (.int .i64) (.cons .str .nil)) 8,.i a,.own (.cons (.int .i64) (.cons .str .nil)) 2,.i (L.length:Int),.i q]∧H= [Mm hs nd wr sz s ph,.cells [.sl false .bool lo],.r (.cons (.int .i64) (.cons .str .nil)) L,.cells [.i ((c+((yf hs nd wr sz s ph ns (a:Int) L).length:Int))+((G9 hs nd wr sz s ph ns (a:Int) lo c L).length:Int))],.imap false sK (dG hs nd wr sz s ph ns (a:Int) lo c L),.dead,.dead,.r oo (Ai hs nd wr sz s ph ns (a:Int) lo c L),.r (.cons (.int .i64) (.cons .str .nil)) (sY (yg hs nd wr sz s ph ns (a:Int) lo c L) (x6 hs nd wr sz s ph ns (a:Int) lo c L) L q)],⟨rfl,L.length,0,by omega,by omega,rfl,by rw [hPl];rfl⟩,?_⟩
             rintro nM vs H ⟨q,hc5_0,rfl,rfl,rfl⟩
             refine yn ((q:Int)<(L.length:Int)) (fun h14=> ?_) fun h14=> ?_
             ·have hkl:q<L.length:=by omega
              obtain⟨hs1,hs2,hso,hs4⟩:=(R.e2 (ns:=ns) (a:=(a:Int)) (lo:=lo) (c:=c)).at (R.has (ns:=ns) (a:=(a:Int)) (lo:=lo) (c:=c) hkl).2
              obtain⟨hm0,hm1⟩:0≤((aW (dG hs nd wr sz s ph ns (a:Int) lo c L) ((L.getD q (0,([],()))).1)).getD (0,([],([],([],()))))).1∧((aW (dG hs nd wr sz s ph ns (a:Int) lo c L) ((L.getD q (0,([],()))).1)).getD (0,([],([],([],()))))).1<12:=by
               have:=T0.hs12 _ hs2
               rw [←hs1] at this
               exact this
              have hek:=R.errs (ns:=ns) (a:=(a:Int)) (lo:=lo) (c:=c) hkl
              have hol:=t9 (yg hs nd wr sz s ph ns (a:Int) lo c L) (x6 hs nd wr sz s ph ns (a:Int) lo c L) L q
              refine⟨ix q L.length,cm,rfl,rfl,rfl,rfl,rfl,rfl,rfl,⟨om (hs.length≤2000000),om ((Ai hs nd wr sz s ph ns (a:Int) lo c L).length≤20),hpx,hso.rl,hso.vl,hso.vv,hso.szd,hso.ro,hm0,hm1,om (nd≤5)⟩,cm,yn ((jM hs nd wr sz s ph (((aW (dG hs nd wr sz s ph ns (a:Int) lo c L) ((L.getD q (0,([],()))).1)).getD (0,([],([],([],()))))).1) ((((aW (dG hs nd wr sz s ph ns (a:Int) lo c L) ((L.getD q (0,([],()))).1)).getD (0,([],([],([],()))))).2).1) (((((aW (dG hs nd wr sz s ph ns (a:Int) lo c L) ((L.getD q (0,([],()))).1)).getD (0,([],([],([],()))))).2).2).1) ((((((aW (dG hs nd wr sz s ph ns (a:Int) lo c L) ((L.getD q (0,([],()))).1)).getD (0,([],([],([],()))))).2).2).2).1) (Ai hs nd wr sz s ph ns (a:Int) lo c L))=0) (fun h15=> ?_) fun h15=> ?_⟩
              ·have hO:sY (yg hs nd wr sz s ph ns (a:Int) lo c L) (x6 hs nd wr sz s ph ns (a:Int) lo c L) L (q+1)=sY (yg hs nd wr sz s ph ns (a:Int) lo c L) (x6 hs nd wr sz s ph ns (a:Int) lo c L) L q++ [(yg hs nd wr sz s ph ns (a:Int) lo c L) (L.getD q (0,([],())))]:=if_pos h15
               refine⟨rfl,fN,l9 (sY (yg hs nd wr sz s ph ns (a:Int) lo c L) (x6 hs nd wr sz s ph ns (a:Int) lo c L) L q).length,aj (q+1),?_⟩
               first
               |exact⟨rfl,L.length-(q+1),by omega,q+1,by omega,rfl,rfl,by rw [hO];rfl⟩
              ·have hO:sY (yg hs nd wr sz s ph ns (a:Int) lo c L) (x6 hs nd wr sz s ph ns (a:Int) lo c L) L (q+1)=sY (yg hs nd wr sz s ph ns (a:Int) lo c L) (x6 hs nd wr sz s ph ns (a:Int) lo c L) L q:=if_neg h15
               refine yn ((jM hs nd wr sz s ph (((aW (dG hs nd wr sz s ph ns (a:Int) lo c L) ((L.getD q (0,([],()))).1)).getD (0,([],([],([],()))))).1) ((((aW (dG hs nd wr sz s ph ns (a:Int) lo c L) ((L.getD q (0,([],()))).1)).getD (0,([],([],([],()))))).2).1) (((((aW (dG hs nd wr sz s ph ns (a:Int) lo c L) ((L.getD q (0,([],()))).1)).getD (0,([],([],([],()))))).2).2).1) ((((((aW (dG hs nd wr sz s ph ns (a:Int) lo c L) ((L.getD q (0,([],()))).1)).getD (0,([],([],([],()))))).2).2).2).1) (Ai hs nd wr sz s ph ns (a:Int) lo c L))≠17) (fun h16=> ?_) fun h16=> ?_
               ·exact absurd (hek.resolve_left h15) h16
               ·refine⟨aj (q+1),?_⟩
                first
                |exact⟨rfl,L.length-(q+1),by omega,q+1,by omega,rfl,rfl,by rw [hO];rfl⟩
             ·have hNq:sY (yg hs nd wr sz s ph ns (a:Int) lo c L) (x6 hs nd wr sz s ph ns (a:Int) lo c L) L q=(jg hs nd wr sz s ph ns (a:Int) lo c L):=by rw [show q=L.length by omega];rfl
              have R2:Rw hs nd wr sz st ph (cB ns (Int.toNat 0) (Int.toNat sz)) (jg hs nd wr sz s ph ns (a:Int) lo c L):=R.next T0
              have hNl:=R2.len
              have hol:=t9 (yg hs nd wr sz s ph ns (a:Int) lo c L) (x6 hs nd wr sz s ph ns (a:Int) lo c L) L q
              refine⟨aj (3*ph),aj (s+(3*ph)),jP,rfl,⟨om ((sY (yg hs nd wr sz s ph ns (a:Int) lo c L) (x6 hs nd wr sz s ph ns (a:Int) lo c L) L q).length≤1048576),by show(cB ns (Int.toNat 0) (Int.toNat sz)).length≤1048576;rw [bb];omega⟩,yn (¬(ry (sY (yg hs nd wr sz s ph ns (a:Int) lo c L) (x6 hs nd wr sz s ph ns (a:Int) lo c L) L q) nd (cB ns (Int.toNat 0) (Int.toNat sz)))) (fun h17=> ?_) fun h17=> ?_⟩
              ·rw [hNq] at h17
               exact absurd (R2.fit (List.Sublist.refl _)) h17
              ·refine⟨9, [(0,.k),(1,.k),(4,.k),(5,.k),(8,.k),(14,.k),(15,.k),(17,.k),(20,.k),(43,.o (.cons (.int .i64) (.cons .str .nil))),(133,.k),(270,.k),(271,.k),(272,.k)],fun nM vs H=>∃(v:Nat),v≤(jg hs nd wr sz s ph ns (a:Int) lo c L).length∧nM=(jg hs nd wr sz s ph ns (a:Int) lo c L).length-v∧vs= [.str ct,.str ns,.int .u16 se,.str ot,.p 0,.str (cB ns (Int.toNat 0) (Int.toNat sz)),.str (gR ct (cB ns (Int.toNat 0) (Int.toNat sz))),.own (.cons (.int .i64) (.cons .str .nil)) 8,.fn 19 [.p 1,.p 3,.p 0],.own (.cons (.int .i64) (.cons .str .nil)) 9,.i a,.own (.cons (.int .i64) (.cons .str .nil)) 8,.i (((sY (yg hs nd wr sz s ph ns (a:Int) lo c L) (x6 hs nd wr sz s ph ns (a:Int) lo c L) L q).length:Nat):Int),.i v]∧H= [.cells [.sl false (.int .i64) hs,.i nd,.i wr,.i sz,.i (s+(3*ph)),.i ph],.cells [.sl false .bool lo],.r (.cons (.int .i64) (.cons .str .nil)) L,.cells [.i ((c+((yf hs nd wr sz s ph ns (a:Int) L).length:Int))+((G9 hs nd wr sz s ph ns (a:Int) lo c L).length:Int))],.imap false sK (dG hs nd wr sz s ph ns (a:Int) lo c L),.dead,.dead,.r oo (Ai hs nd wr sz s ph ns (a:Int) lo c L),.r (.cons (.int .i64) (.cons .str .nil)) (jg hs nd wr sz s ph ns (a:Int) lo c L),.r (.cons (.int .i64) (.cons .str .nil)) (g8 se (jg hs nd wr sz s ph ns (a:Int) lo c L) v)],⟨rfl,(jg hs nd wr sz s ph ns (a:Int) lo c L).length,0,by omega,by omega,by rw [hNq];rfl,by rw [hNq];rfl⟩,?_⟩
               rintro nM vs H ⟨v,hc6_0,rfl,rfl,rfl⟩
               refine yn ((v:Int)<(((sY (yg hs nd wr sz s ph ns (a:Int) lo c L) (x6 hs nd wr sz s ph ns (a:Int) lo c L) L q).length:Nat):Int)) (fun h18=> ?_) fun h18=> ?_
               ·rw [hNq] at h18
                have hvl9:v<(jg hs nd wr sz s ph ns (a:Int) lo c L).length:=by omega
                obtain⟨w1,w2⟩:=(R2.mem (ns:=ns) (a:=(a:Int)) hvl9).2.1
                have hsl:=td se (jg hs nd wr sz s ph ns (a:Int) lo c L) v
                refine⟨ix v (jg hs nd wr sz s ph ns (a:Int) lo c L).length,cm,⟨om ((0:Int)≤((jg hs nd wr sz s ph ns (a:Int) lo c L).getD v (0,([],()))).1),om (((jg hs nd wr sz s ph ns (a:Int) lo c L).getD v (0,([],()))).1≤(16:Int))⟩,.inr ⟨rfl,?_⟩⟩
                refine yn (((se/2^((((jg hs nd wr sz s ph ns (a:Int) lo c L).getD v (0,([],()))).1).toNat))%2)=1) (fun h19=> ?_) fun h19=> ?_
                ·have hW:g8 se (jg hs nd wr sz s ph ns (a:Int) lo c L) (v+1)=g8 se (jg hs nd wr sz s ph ns (a:Int) lo c L) v++ [(jg hs nd wr sz s ph ns (a:Int) lo c L).getD v (0,([],()))]:=if_pos h19
                 refine⟨rfl,fN,l9 (g8 se (jg hs nd wr sz s ph ns (a:Int) lo c L) v).length,aj (v+1),?_⟩
                 first
                 |exact⟨rfl,(jg hs nd wr sz s ph ns (a:Int) lo c L).length-(v+1),by omega,v+1,by omega,rfl,rfl,by rw [hW];rfl⟩
                ·have hW:g8 se (jg hs nd wr sz s ph ns (a:Int) lo c L) (v+1)=g8 se (jg hs nd wr sz s ph ns (a:Int) lo c L) v:=if_neg h19
                 refine⟨aj (v+1),?_⟩
                 first
                 |exact⟨rfl,(jg hs nd wr sz s ph ns (a:Int) lo c L).length-(v+1),by omega,v+1,by omega,rfl,rfl,by rw [hW];rfl⟩
               ·rw [hNq] at h18
                have hsub:(g8 se (jg hs nd wr sz s ph ns (a:Int) lo c L) v).Sublist (jg hs nd wr sz s ph ns (a:Int) lo c L):=(Ae se (jg hs nd wr sz s ph ns (a:Int) lo c L) v (by omega)).trans (List.take_sublist _ _)
                have hsl:=td se (jg hs nd wr sz s ph ns (a:Int) lo c L) v
                have hsu:(cU (gR ct (cB ns (Int.toNat 0) (Int.toNat sz))) ot).length=(cB ns (Int.toNat 0) (Int.toNat sz)).length:=by rw [cM];omega
                refine⟨rfl,⟨om ((g8 se (jg hs nd wr sz s ph ns (a:Int) lo c L) v).length≤1048576),by show(cB ns (Int.toNat 0) (Int.toNat sz)).length≤1048576;rw [bb];omega⟩,by kernel_rfl,⟨om ((gR ct (cB ns (Int.toNat 0) (Int.toNat sz))).length≤1000000000),om (ot.length≤1000000000)⟩,rfl,⟨om ((g8 se (jg hs nd wr sz s ph ns (a:Int) lo c L) v).length≤1048576),om ((cU (gR ct (cB ns (Int.toNat 0) (Int.toNat sz))) ot).length≤1048576)⟩,ny (¬(ry (g8 se (jg hs nd wr sz s ph ns (a:Int) lo c L) v) nd (cB ns (Int.toNat 0) (Int.toNat sz)))) (fun h20=> ?_) fun h20=> ?_⟩
                ·refine yn ((((g8 se (jg hs nd wr sz s ph ns (a:Int) lo c L) v).length:Nat):Int)<nd) (fun h21=> ?_) fun h21=> ?_
                 ·refine ny (¬(ry (g8 se (jg hs nd wr sz s ph ns (a:Int) lo c L) v) nd (cU (gR ct (cB ns (Int.toNat 0) (Int.toNat sz))) ot))) (fun h22=> ?_) fun h22=> ?_
                  ·refine yn ((vM (g8 se (jg hs nd wr sz s ph ns (a:Int) lo c L) v) nd (cB ns (Int.toNat 0) (Int.toNat sz)))≠(vM (g8 se (jg hs nd wr sz s ph ns (a:Int) lo c L) v) nd (cU (gR ct (cB ns (Int.toNat 0) (Int.toNat sz))) ot))) (fun h23=> ?_) fun h23=> ?_
                   ·exact absurd (R2.hide hsub h21 hsu).2 h23
                   ·refine⟨aj (a+1),?_⟩
                    exact⟨rfl,2-(a+1),by omega,a+1,s+3*ph,c+((yf hs nd wr sz s ph ns (a:Int) L).length:Int)+((G9 hs nd wr sz s ph ns (a:Int) lo c L).length:Int),(jg hs nd wr sz s ph ns (a:Int) lo c L),by omega,⟨by omega,by omega⟩,⟨by omega,by omega⟩,R2,rfl,rfl,rfl⟩
                  ·exact absurd (R2.hide hsub h21 hsu).1 h22
                 ·refine⟨aj (a+1),?_⟩
                  exact⟨rfl,2-(a+1),by omega,a+1,s+3*ph,c+((yf hs nd wr sz s ph ns (a:Int) L).length:Int)+((G9 hs nd wr sz s ph ns (a:Int) lo c L).length:Int),(jg hs nd wr sz s ph ns (a:Int) lo c L),by omega,⟨by omega,by omega⟩,⟨by omega,by omega⟩,R2,rfl,rfl,rfl⟩
                ·exact absurd (R2.fit hsub) h20
         ·have hLl:=hc1_3.len
          refine yn ((L.length:Int)<nd) (fun h24=> ?_) fun h24=> ?_
          ·exact⟨rfl,rfl,congrArg V.b (propext ⟨fun _=>trivial,fun _=>rfl⟩),rfl⟩
          ·obtain⟨j1,j2⟩:=hc1_3.join h24
           refine⟨rfl,om (L.length≤1048576),⟨om ((gR ct (cB ns (Int.toNat 0) (Int.toNat sz))).length≤1048576),by show(Eb L nd 0).length≤1048576;rw [j2];omega⟩,yn ((Mg L nd)=0) (fun h25=> ?_) fun h25=> ?_⟩
           ·refine yn ((zS (gR ct (cB ns (Int.toNat 0) (Int.toNat sz))) (Eb L nd 0))=0) (fun h26=> ?_) fun h26=> ?_
            ·exact⟨rfl,rfl,congrArg V.b (propext ⟨fun _=>trivial,fun _=>(by show gR (gR ct (cB ns (Int.toNat 0) (Int.toNat sz))) (Eb L nd 0)=ct;rw [j2,gR,if_pos (by omega),hcs,Go.Proofs.YtogipicegdbhdaaDoor.S72c.xor_back (by omega)])⟩),rfl⟩
            ·exact absurd (show zS (gR ct (cB ns (Int.toNat 0) (Int.toNat sz))) (Eb L nd 0)=0 by rw [j2];exact if_pos (by omega)) h26
           ·exact absurd j1 h25
       ·exact absurd hcov h7
     ·exact ao
    ·exact ao
   ·exact ao
  ·exact ao
 ·exact ao
end Go.Proofs.YtogipicegdbhdaaDoor.S72d
namespace Go.Proofs.YtogipicegdbhdaaDoor
set_option maxHeartbeats 20000000
open Go Go.Proofs.YtogipicegdbhdaaDoor.Vc Go.Proofs Go.Proofs.YtogipicegdbhdaaDoor.S72 Go.Proofs.YtogipicegdbhdaaDoor.S72c Go.Proofs.YtogipicegdbhdaaDoor.S72d Go.ChangeShapes Go.WideShapes Go.ChangeAt Go.RowKit
set_option maxRecDepth 100000
set_option linter.unusedVariables false
section
namespace Cd.wholeRenews
open Go.Proofs.YtogipicegdbhdaaDoor.Cd
theorem deep0:Deep Tryd.prog .str (.inl 9):=Tryd.underlying9
theorem rec0:Tryd.prog.readableRec 9=true:=by kernel_rfl
theorem lt0:9<Tryd.prog.types.size:=of_decide_eq_true (by kernel_rfl)
theorem deep1:Deep Tryd.prog .str (.inl 9):=Tryd.underlying9
theorem rec1:Tryd.prog.readableRec 9=true:=by kernel_rfl
theorem lt1:9<Tryd.prog.types.size:=of_decide_eq_true (by kernel_rfl)
theorem deep2:Deep Tryd.prog (.cons (.sl (.int .i64)) (.cons (.int .i64) (.cons (.int .i64) (.cons (.int .i64) (.cons (.int .i64) (.cons (.int .i64) .nil)))))) (.inl 52):=⟨_,_,_,Tryd.underlying52,rfl,by kernel_rfl,by kernel_rfl,by kernel_rfl,⟨3,Tryd.underlying22,by kernel_rfl,by decide,Tryd.underlying3⟩,⟨by kernel_rfl,by kernel_rfl,Tryd.underlying3,⟨by kernel_rfl,by kernel_rfl,Tryd.underlying3,⟨by kernel_rfl,by kernel_rfl,Tryd.underlying3,⟨by kernel_rfl,by kernel_rfl,Tryd.underlying3,⟨by kernel_rfl,by kernel_rfl,Tryd.underlying3,trivial⟩⟩⟩⟩⟩⟩
theorem rec2:Tryd.prog.readableRec 52=true:=by kernel_rfl
theorem lt2:52<Tryd.prog.types.size:=of_decide_eq_true (by kernel_rfl)
theorem deep3:Deep Tryd.prog (.sl .bool) (.inl 53):=⟨4,Tryd.underlying53,by kernel_rfl,by decide,Tryd.underlying4⟩
theorem rec3:Tryd.prog.readableRec 53=true:=by kernel_rfl
theorem lt3:53<Tryd.prog.types.size:=of_decide_eq_true (by kernel_rfl)
theorem deep4:Deep Tryd.prog (.int .u16) (.inl 27):=Tryd.underlying27
theorem rec4:Tryd.prog.readableRec 27=true:=by kernel_rfl
theorem lt4:27<Tryd.prog.types.size:=of_decide_eq_true (by kernel_rfl)
theorem deep5:Deep Tryd.prog .str (.inl 9):=Tryd.underlying9
theorem rec5:Tryd.prog.readableRec 9=true:=by kernel_rfl
theorem lt5:9<Tryd.prog.types.size:=of_decide_eq_true (by kernel_rfl)
theorem globs {W:World} (h:laidMetH Tryd.prog Rows.wholeRenewsUptoRow.laid W):∀g x,lk G6 g=some x→VRel (c0 W) [] W x (.pointer (some ⟨g,0,none⟩)):=fun g x hx=>by
 have hg:Tryd.prog.globalNamed "quietus/gf.high" =some 0:=by kernel_rfl
 have ht:Lib.TabIs Tryd.prog W "quietus/gf.high" .u8 [0,29,58,39,116,105,78,83,232,245,210,207,156,129,166,187]:=Lib.tabIs_of_head (rest:= []) hg (by kernel_rfl) Tryd.underlying196 Tryd.underlying5 (by kernel_rfl) (by kernel_rfl) h
 have key:∀i,i<16→([0,29,58,39,116,105,78,83,232,245,210,207,156,129,166,187]:List Int).getD i 0=((hi.getD i 0).toNat:Int):=by decide
 have hc:∀i,i<hi.length→W.cell? ⟨0,i,none⟩=some (.int .u8 ((hi.getD i 0).toNat:Int)):=fun i hi'=>by
  have:=ht.cell hg i hi'
  rwa [key i hi'] at this
 unfold G6 lk at hx
 cases hb:Nat.beq 0 g with
 |false=>rw [hb] at hx;simp [lk] at hx
 |true=>
  rw [hb] at hx
  simp only [cond_true,Option.some.injEq] at hx
  have:=aa hb
  subst this hx
  exact Ri (sM (hc 0 (by decide))).2 hc rfl
theorem contract (H:Type) (enc:TypeId×Value→H) (W:World) (base:Nat) (args:Array Value) (ds gs:List (DataW H)) (before:List MemPlace)
  (hval:∀(j:Nat) t v,Tryd.f4.params[j]? =some t→args[j]? =some v→Value.okWide Tryd.prog W .any base t v)
  (hW:DataW.Whole enc Tryd.prog Tryd.f4.params.toList Rows.wholeRenewsSpec.vars false W args.toList ds gs before) (hc:Rows.uptoSmall H (ds++gs)=true) (hL:laidMetH Tryd.prog Rows.wholeRenewsUptoRow.laid W):
  Calls Tryd.prog 4 args W fun e W'=>∃v,e= .returned v∧Rows.wholeRenewsSpec.post enc Tryd.prog Tryd.f4 false true false false W args v W':=by
 have hW':=hW
 obtain⟨p,q,hA0,hV,rfl,hfz,hnd⟩:=hW
 have hA:DataW.TrodAll enc Tryd.prog W 0 (fun _=>true) true Tryd.f4.params.toList args.toList ds p:=hA0
 rw [Tryd.params4] at hA hval
 obtain⟨v0,vs0,d0,ds0,p0,q0,hargs,rfl,rfl,h0,r0⟩:=trodAll_cons hA
 obtain⟨v1,vs1,d1,ds1,p1,q1,rfl,rfl,rfl,h1,r1⟩:=trodAll_cons r0
 obtain⟨v2,vs2,d2,ds2,p2,q2,rfl,rfl,rfl,h2,r2⟩:=trodAll_cons r1
 obtain⟨v3,vs3,d3,ds3,p3,q3,rfl,rfl,rfl,h3,r3⟩:=trodAll_cons r2
 obtain⟨v4,vs4,d4,ds4,p4,q4,rfl,rfl,rfl,h4,r4⟩:=trodAll_cons r3
 obtain⟨v5,vs5,d5,ds5,p5,q5,rfl,rfl,rfl,h5,r5⟩:=trodAll_cons r4
 obtain⟨rfl,rfl,rfl⟩:=trodAll_nil r5
 obtain rfl:args= #[v0,v1,v2,v3,v4,v5]:=by cases args;simp_all
 obtain⟨rfl,rfl⟩:=trodVars_none hV
 obtain⟨x0,rel0,w0,wf0⟩:=nv (bk:=Rows.uptoBulk) Es deep0 (hval 0 9 v0 rfl rfl) h0
 obtain⟨x1,rel1,w1,wf1⟩:=nv (bk:=Rows.uptoBulk) Es deep1 (hval 1 9 v1 rfl rfl) h1
 obtain⟨x2,rel2,w2,wf2⟩:=nv (bk:=Rows.uptoBulk) Es deep2 (hval 2 52 v2 rfl rfl) h2
 obtain⟨x3,rel3,w3,wf3⟩:=nv (bk:=Rows.uptoBulk) Es deep3 (hval 3 53 v3 rfl rfl) h3
 obtain⟨x4,rel4,w4,wf4⟩:=nv (bk:=Rows.uptoBulk) Es deep4 (hval 4 27 v4 rfl rfl) h4
 obtain⟨x5,rel5,w5,wf5⟩:=nv (bk:=Rows.uptoBulk) Es deep5 (hval 5 9 v5 rfl rfl) h5
 have hsum:Rows.uptoBulkAll [d0,d1,d2,d3,d4,d5]≤1048576:=by simpa [Rows.uptoSmall] using hc
 simp only [Rows.uptoBulkAll] at hsum
 have hlt:∀x∈p0++p1++p2++p3++p4++p5,x.block<W.heap.size:=fun x hx=>by simpa using hW'.lt x (by simpa using hx)
 refine(Tc aBA rfl Tryd.func4 (.cons _ _ _ _ rel0 (.cons _ _ _ _ rel1 (.cons _ _ _ _ rel2 (.cons _ _ _ _ rel3 (.cons _ _ _ _ rel4 (.cons _ _ _ _ rel5 (VRels.nil))))))) (globs hL) (bLWr x0 x1 x2.1 x2.2.1 x2.2.2.1 x2.2.2.2.1 x2.2.2.2.2.1 x2.2.2.2.2.2.1 x3 x4 x5 (by have e:=Mr x2;have e2:=Wb x2.1;omega) (by have e:wt .str x0=x0.length+1:=rfl;omega) (by have e:wt .str x1=x1.length+1:=rfl;omega) (by have e:wt .str x5=x5.length+1:=rfl;omega) wf4.1 wf4.2)).mono fun e W' ⟨he,hb⟩=> ?_
 subst he
 exact⟨_,rfl,Df (pa:=(p0++(p1++(p2++(p3++(p4++(p5++ []))))))) (pv:= []) hW' (fun _ _ _=>trodAll_cons_mk (shut_bool Tryd.underlying4 _) trodAll_mk0) (fun sp hsp=>trodAll_cons_mk (WideElems.Trod_stays kV rec0 lt0 h0 (fun x hx=>hb.same (hlt x (by simp [hx]))) (fun x hx=>hsp x (by simp [hx]))) (trodAll_cons_mk (WideElems.Trod_stays kV rec1 lt1 h1 (fun x hx=>hb.same (hlt x (by simp [hx]))) (fun x hx=>hsp x (by simp [hx]))) (trodAll_cons_mk (WideElems.Trod_stays kV rec2 lt2 h2 (fun x hx=>hb.same (hlt x (by simp [hx]))) (fun x hx=>hsp x (by simp [hx]))) (trodAll_cons_mk (WideElems.Trod_stays kV rec3 lt3 h3 (fun x hx=>hb.same (hlt x (by simp [hx]))) (fun x hx=>hsp x (by simp [hx]))) (trodAll_cons_mk (WideElems.Trod_stays kV rec4 lt4 h4 (fun x hx=>hb.same (hlt x (by simp [hx]))) (fun x hx=>hsp x (by simp [hx]))) (trodAll_cons_mk (WideElems.Trod_stays kV rec5 lt5 h5 (fun x hx=>hb.same (hlt x (by simp [hx]))) (fun x hx=>hsp x (by simp [hx]))) (trodAll_mk0))))))) (fun _ _=>rfl) rfl hb (ok_one (by kernel_rfl) rfl (okWide_bool_mk Tryd.underlying4 _))⟩
noncomputable def laidWorld (os:Os):World:=
 {World.holding Tryd.prog os ⟨#[],#[], []⟩ with heap:=(World.holding Tryd.prog os ⟨#[],#[], []⟩).heap.modify 0 fun
   |.cells _ t frozen=> .cells #[.int .u8 0,.int .u8 29,.int .u8 58,.int .u8 39,.int .u8 116,.int .u8 105,.int .u8 78,.int .u8 83,.int .u8 232,.int .u8 245,.int .u8 210,.int .u8 207,.int .u8 156,.int .u8 129,.int .u8 166,.int .u8 187] t frozen
   |o=>o}
theorem laid_met (os:Os):laidMet Tryd.prog Rows.wholeRenewsUptoRow.laid ((laidWorld os).forCall (fun _ _=>0) ⟨#[],#[.string ⟨#[]⟩,.string ⟨#[]⟩,.agg #[.slice none 0 0,.int .i64 0,.int .i64 0,.int .i64 0,.int .i64 0,.int .i64 0],.slice none 0 0,.int .u16 0,.string ⟨#[]⟩], []⟩).memory:=
 laidMet_of_run' 8 (by kernel_rfl) (by kernel_rfl)
theorem reads (os:Os) {H:Type} (enc:TypeId×Value→H):∃places,DataW.whole enc Tryd.prog ((laidWorld os).forCall (fun _ _=>0) ⟨#[],#[.string ⟨#[]⟩,.string ⟨#[]⟩,.agg #[.slice none 0 0,.int .i64 0,.int .i64 0,.int .i64 0,.int .i64 0,.int .i64 0],.slice none 0 0,.int .u16 0,.string ⟨#[]⟩], []⟩).memory Tryd.f4.params.toList Rows.wholeRenewsSpec.vars false (#[.string ⟨#[]⟩,.string ⟨#[]⟩,.agg #[.slice none 0 0,.int .i64 0,.int .i64 0,.int .i64 0,.int .i64 0,.int .i64 0],.slice none 0 0,.int .u16 0,.string ⟨#[]⟩]:Array Value).toList 8=some ([.lit (.string []),.lit (.string []),.agg [.nil,.lit (.int .i64 0),.lit (.int .i64 0),.lit (.int .i64 0),.lit (.int .i64 0),.lit (.int .i64 0)],.nil,.lit (.int .u16 0),.lit (.string [])], [],places):=
 ⟨[],by kernel_rfl⟩
theorem liftedUpto (os:Os) (started:os.Started) (H:Type) (enc:TypeId×Value→H) (F:Stop.Interp):
  ReturnsInHanded {} Tryd.checked os 4 .any ((Rows.OpenSpec.upto Rows.wholeRenewsSpec).preRow enc Tryd.prog Tryd.f4 Rows.wholeRenewsUptoRow.domain false Rows.wholeRenewsUptoRow.laid) (((Rows.OpenSpec.upto Rows.wholeRenewsSpec).at F).post enc Tryd.prog Tryd.f4 false true false false):=by
 obtain⟨places,hx⟩:=reads os enc
 refine returnsInHanded_of_row (C:=Tryd.checked) (s:=Rows.OpenSpec.upto Rows.wholeRenewsSpec) own started (by kernel_rfl) Tryd.func4
  (witness_row_at (enc:=enc) (C:=Tryd.checked) false (laidWorld os) #[.string ⟨#[]⟩,.string ⟨#[]⟩,.agg #[.slice none 0 0,.int .i64 0,.int .i64 0,.int .i64 0,.int .i64 0,.int .i64 0],.slice none 0 0,.int .u16 0,.string ⟨#[]⟩] rfl (by kernel_rfl) (by kernel_rfl) (by kernel_rfl)
   (OpenSpec.preRow_of_cond 8 hx (by kernel_rfl) (fun k hk=>by cases hk;kernel_rfl) (by kernel_rfl) (laid_met os))) ?_
 intro W base args ds gs before hval hW _ hcond _ hL _ _
 exact contract H enc W base args ds gs before hval hW (hcond _ rfl) hL
theorem saidUpto:Rows.WholeRenewsUptoSaid:=
 OpenClaim.holds_of_cond 4 Tryd.f4 rfl rfl rfl rfl rfl rfl rfl ⟨rfl,rfl,rfl,rfl,rfl⟩ rfl rfl rfl rfl rfl (by kernel_rfl) Tryd.func4 (by kernel_rfl)
  (of_decide_eq_true (by kernel_rfl)) (by unfold Func.isWrapper;first|(rw [if_pos (by decide+kernel)];kernel_rfl)|(rw [if_neg (by decide+kernel)];exact⟨rfl,rfl⟩))
  (fun os started H enc _ F=>by rw [OpenClaim.pre_eq_preRow];exact liftedUpto os started H enc F)
theorem plain (f:FuncId) (fn:Func) (hf:Tryd.pinned.checked.prog.funcNamed "quietus/quietustop.WholeRenews" =some f) (hfn:Tryd.pinned.checked.prog.funcs[f]? =some fn):
  false=Tryd.pinned.checked.prog.looks []∧∀(j:Nat) t,fn.params[j]? =some t→Tryd.pinned.checked.prog.wantsStandIn t=false:=by
 obtain rfl:f=4:=Option.some.inj ((show Tryd.prog.funcNamed "quietus/quietustop.WholeRenews" =some 4 by kernel_rfl).symm.trans hf)|>.symm
 obtain rfl:fn=Tryd.f4:=(Option.some.inj (Tryd.func4.symm.trans hfn)).symm
 refine⟨by kernel_rfl,fun j t ht=> ?_⟩
 rw [Tryd.params4] at ht
 have hm:=Array.mem_of_getElem? ht
 simp only [List.mem_toArray,List.mem_cons,List.not_mem_nil,or_false] at hm
 rcases hm with rfl|rfl|rfl|rfl|rfl|rfl
 ·exact(show Tryd.prog.wantsStandIn 9=false by kernel_rfl)
 ·exact(show Tryd.prog.wantsStandIn 9=false by kernel_rfl)
 ·exact(show Tryd.prog.wantsStandIn 52=false by kernel_rfl)
 ·exact(show Tryd.prog.wantsStandIn 53=false by kernel_rfl)
 ·exact(show Tryd.prog.wantsStandIn 27=false by kernel_rfl)
 ·exact(show Tryd.prog.wantsStandIn 9=false by kernel_rfl)
theorem cardUpto:Rows.WholeRenewsUptoCardSaid:=
 Claim7.holds_tied_plain_at .later [] _ _ _ _ saidUpto (fun _ h=>by cases h) (by kernel_rfl) (fun _ h=>by cases h) wholeRenewsUpto_row_tie rfl ⟨rfl,rfl⟩ (by kernel_rfl) rfl plain (by kernel_rfl)
end Cd.wholeRenews
theorem wholeRenews_holds :Rows.WholeRenewsUptoCardSaid:=Cd.wholeRenews.cardUpto
end
end Go.Proofs.YtogipicegdbhdaaDoor

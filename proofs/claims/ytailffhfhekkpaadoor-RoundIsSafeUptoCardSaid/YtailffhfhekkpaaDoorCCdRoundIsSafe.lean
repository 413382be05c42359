/- Texts of this claim. -/
import Derived.Test.YtailffhfhekkpaaDoorS9
import Derived.Test.YtailffhfhekkpaaDoorS10
set_option linter.unusedVariables false
set_option linter.unusedSimpArgs false
namespace Go.Proofs.YtailffhfhekkpaaDoor.S62c
set_option maxHeartbeats 20000000
open Go Go.Proofs.YtailffhfhekkpaaDoor.Vc Go.Proofs
set_option maxRecDepth 100000
set_option linter.unusedVariables false
open Go.Proofs.YtailffhfhekkpaaDoor.S62
theorem bLSf (hs:List Int) (nd wr sz st ph:Int) (sec nz:List UInt8) (lb:Int) (ml:List ((Int×(Int×(Int×(Int×(List (List UInt8)×Unit)))))×(Int×Unit))) (po:List (Int×(List Int×Unit))) (lo:List Bool) (hp0:hs.length≤1048576) (hp1:nz.length≤1048576) (hp2:(∀m∈ml,m.1.2.2.2.2.1.length≤1048576)) (hp3:(∀p∈po,p.2.1.length≤1048576)) (hp4:0≤lb) (hp5:lb≤65535):bI (En Tf tys G6 ct) Tryd.f4 [.k] [.agg [.sl false (.int .i64) hs,.int .i64 nd,.int .i64 wr,.int .i64 sz,.int .i64 st,.int .i64 ph,.str sec,.str nz,.int .u16 lb,.sl false (.cons dY (.cons (.int .i64) .nil)) ml,.sl false fN po,.sl false .bool lo]] (.b True) []:=by
 refine⟨rfl,rfl,rfl,rfl,rfl,rfl,om (hs.length≤1048576),yn (¬(fZ hs nd wr sz st ph=0∧hs.length≤7∧sz≤4∧(sec.length:Int)=sz∧ml.length≤60∧po.length≤10)) (fun h0=> ?_) fun h0=> ?_⟩
 ·refine⟨trivial,?_⟩
  exact a6
 ·obtain⟨hm1,hm2,hm3,hm4,hm5,hm6⟩:=nw h0
  have G:Gm hs nd wr sz st ph sec nz ml po:=⟨E7 hm1,hm2,hm3,hm4,hm5,hm6,hp1,hp2,hp3⟩
  have hl17:=(G.post (lb:=lb) (lo:=lo)).1
  obtain⟨hSl,hFl⟩:=G.lens (lb:=lb) (lo:=lo)
  have hH7:=G.ho (lb:=lb)
  have hn:=G.tk.rg.1.1
  have hz:=G.tk.rg.1.2.2.1
  obtain⟨nb1,nb2⟩:=Ak hn ⟨hz.1,hm3⟩
  have hdl:=ui hs nd wr sz st ph (dR hs nd wr sz st ph sec nz lb ml po lo)
  refine⟨rfl,rfl,rfl,rfl,rfl,rfl,⟨hm1,om (hs.length≤7),om (sz≤4),om ((sec.length:Int)=sz),om (ml.length≤60),om (po.length≤10),om (nz.length≤1048576),hp2,hp3,om (0≤lb),om (lb≤65535)⟩,cO,cn (¬True),fun h1=> ?_⟩
  refine⟨2, [(1,.k),(3,.k),(5,.o (.cons (.int .i64) (.cons .str .nil))),(32,.k),(33,.k),(34,.k)],fun nM vs H=>∃(k:Nat),k≤(cH hs nd wr sz st ph sec nz lb ml po lo).length∧nM=(cH hs nd wr sz st ph sec nz lb ml po lo).length-k∧vs= [.p 0,.p 1,.own (.cons (.int .i64) (.cons .str .nil)) 2,.sl true (.int .i64) (cH hs nd wr sz st ph sec nz lb ml po lo),.i (((cH hs nd wr sz st ph sec nz lb ml po lo).length:Nat):Int),.i k]∧H= [.cells [.sl false (.int .i64) hs,.i nd,.i wr,.i sz,.i st,.i ph,.str sec,.str nz,.int .u16 lb,.sl false (.cons dY (.cons (.int .i64) .nil)) ml,.sl false fN po,.sl false .bool lo],.cells [.sl true (.int .i64) (ac hs wr lb),.sl true (.cons (.int .i64) (.cons .str .nil)) (di hs nd wr sz st ph sec nz lb ml po lo),.sl true (.int .i64) (cH hs nd wr sz st ph sec nz lb ml po lo),.sl false fN (dR hs nd wr sz st ph sec nz lb ml po lo)],.r (.cons (.int .i64) (.cons .str .nil)) (iI (di hs nd wr sz st ph sec nz lb ml po lo) (cH hs nd wr sz st ph sec nz lb ml po lo) k)],⟨rfl,(cH hs nd wr sz st ph sec nz lb ml po lo).length,0,by omega,by omega,rfl,rfl⟩,?_⟩
  rintro nM vs H ⟨k,hc1_0,rfl,rfl,rfl⟩
  refine yn ((k:Int)<(((cH hs nd wr sz st ph sec nz lb ml po lo).length:Nat):Int)) (fun h2=> ?_) fun h2=> ?_
  ·have hkl:k<(ac hs wr lb).length:=by omega
   have hek:=G.err (lb:=lb) (lo:=lo) hkl
   have hol:=pF (di hs nd wr sz st ph sec nz lb ml po lo) (cH hs nd wr sz st ph sec nz lb ml po lo) k
   refine⟨ix k (cH hs nd wr sz st ph sec nz lb ml po lo).length,yn (((cH hs nd wr sz st ph sec nz lb ml po lo).getD k 0)=0) (fun h3=> ?_) fun h3=> ?_⟩
   ·have hK:iI (di hs nd wr sz st ph sec nz lb ml po lo) (cH hs nd wr sz st ph sec nz lb ml po lo) (k+1)=iI (di hs nd wr sz st ph sec nz lb ml po lo) (cH hs nd wr sz st ph sec nz lb ml po lo) k++ [(di hs nd wr sz st ph sec nz lb ml po lo).getD k (0,([],()))]:=if_pos h3
    refine⟨ix k (di hs nd wr sz st ph sec nz lb ml po lo).length,rfl,fY,l9 (iI (di hs nd wr sz st ph sec nz lb ml po lo) (cH hs nd wr sz st ph sec nz lb ml po lo) k).length,ap (k+1),?_⟩
    exact⟨rfl,(cH hs nd wr sz st ph sec nz lb ml po lo).length-(k+1),by omega,k+1,by omega,rfl,rfl,by rw [hK];rfl⟩
   ·have hK:iI (di hs nd wr sz st ph sec nz lb ml po lo) (cH hs nd wr sz st ph sec nz lb ml po lo) (k+1)=iI (di hs nd wr sz st ph sec nz lb ml po lo) (cH hs nd wr sz st ph sec nz lb ml po lo) k:=if_neg h3
    refine yn (((cH hs nd wr sz st ph sec nz lb ml po lo).getD k 0)≠17) (fun h4=> ?_) fun h4=> ?_
    ·exact absurd (hek.resolve_left h3) h4
    ·refine⟨ap (k+1),?_⟩
     exact⟨rfl,(cH hs nd wr sz st ph sec nz lb ml po lo).length-(k+1),by omega,k+1,by omega,rfl,rfl,by rw [hK];rfl⟩
  ·have hk:k=(ac hs wr lb).length:=by omega
   have hOk:iI (di hs nd wr sz st ph sec nz lb ml po lo) (cH hs nd wr sz st ph sec nz lb ml po lo) k=(iI (di hs nd wr sz st ph sec nz lb ml po lo) (cH hs nd wr sz st ph sec nz lb ml po lo) (ac hs wr lb).length):=by rw [hk]
   have hfit:=G.fits (lb:=lb) (lo:=lo)
   have hol:=pF (di hs nd wr sz st ph sec nz lb ml po lo) (cH hs nd wr sz st ph sec nz lb ml po lo) k
   refine⟨rfl,⟨om ((iI (di hs nd wr sz st ph sec nz lb ml po lo) (cH hs nd wr sz st ph sec nz lb ml po lo) k).length≤1048576),om (sec.length≤1048576)⟩,yn (¬(xB (iI (di hs nd wr sz st ph sec nz lb ml po lo) (cH hs nd wr sz st ph sec nz lb ml po lo) k) nd sec)) (fun h5=> ?_) fun h5=> ?_⟩
   ·rw [hOk] at h5
    exact absurd hfit h5
   ·refine⟨rfl,rfl,rfl,rfl,rfl,⟨om (hs.length≤2000000),om ((dR hs nd wr sz st ph sec nz lb ml po lo).length≤20),G.post.2⟩,yn ((fZ hs nd wr sz st ph)≠0) (fun h6=> ?_) fun h6=> ?_⟩
    ·exact absurd hm1 h6
    ·refine yn (0<(((aS hs nd wr sz st ph (dR hs nd wr sz st ph sec nz lb ml po lo)).length:Nat):Int)) (fun h7=> ?_) fun h7=> ?_
     ·refine⟨trivial,?_⟩
      exact a6
     ·have hst:=G.stay (lb:=lb) (lo:=lo) (by omega)
      refine⟨ap (nd-1),by kernel_rfl,ap (sz*(nd-1)),rfl,rfl,⟨by omega,by omega,om (0≤(sz*(nd-1))),om ((sz*(nd-1))≤1000000),om (nz.length≤1048576)⟩,rfl,⟨om (sec.length≤1048576),om (hs.length≤1048576),by show(xu nz (Int.toNat 1) (Int.toNat (sz*(nd-1)))).length≤1048576;rw [mE];omega⟩,ny ((gb sec nd hs (xu nz (Int.toNat 1) (Int.toNat (sz*(nd-1)))))≠0) (fun h8=> ?_) fun h8=> ?_⟩
      ·refine yn ((((iI (di hs nd wr sz st ph sec nz lb ml po lo) (cH hs nd wr sz st ph sec nz lb ml po lo) k).length:Nat):Int)≠(((ac hs wr lb).length:Nat):Int)) (fun h9=> ?_) fun h9=> ?_
       ·rw [hOk,hst.1] at h9
        exact absurd rfl h9
       ·have hos:=pD (nz:=nz) G.tk G.sec
        have hok9:=pF (di hs nd wr sz st ph sec nz lb ml po lo) (cH hs nd wr sz st ph sec nz lb ml po lo) (ac hs wr lb).length
        refine⟨5, [(13,.k),(112,.k),(113,.k),(114,.k)],fun nM vs H=>∃(i:Nat),i≤(iI (di hs nd wr sz st ph sec nz lb ml po lo) (cH hs nd wr sz st ph sec nz lb ml po lo) (ac hs wr lb).length).length∧nM=(iI (di hs nd wr sz st ph sec nz lb ml po lo) (cH hs nd wr sz st ph sec nz lb ml po lo) (ac hs wr lb).length).length-i∧vs= [.own (.cons (.int .i64) (.cons .str .nil)) 4,.own (.cons (.int .i64) (.cons .str .nil)) 2,.i (((iI (di hs nd wr sz st ph sec nz lb ml po lo) (cH hs nd wr sz st ph sec nz lb ml po lo) k).length:Nat):Int),.i i]∧H= [.cells [.sl false (.int .i64) hs,.i nd,.i wr,.i sz,.i st,.i ph,.str sec,.str nz,.int .u16 lb,.sl false (.cons dY (.cons (.int .i64) .nil)) ml,.sl false fN po,.sl false .bool lo],.cells [.sl true (.int .i64) (ac hs wr lb),.sl true (.cons (.int .i64) (.cons .str .nil)) (di hs nd wr sz st ph sec nz lb ml po lo),.sl true (.int .i64) (cH hs nd wr sz st ph sec nz lb ml po lo),.sl false fN (dR hs nd wr sz st ph sec nz lb ml po lo)],.r (.cons (.int .i64) (.cons .str .nil)) (iI (di hs nd wr sz st ph sec nz lb ml po lo) (cH hs nd wr sz st ph sec nz lb ml po lo) (ac hs wr lb).length),.r (.cons (.int .i64) (.cons (.int .i64) .nil)) (aS hs nd wr sz st ph (dR hs nd wr sz st ph sec nz lb ml po lo)),.r (.cons (.int .i64) (.cons .str .nil)) (dU hs nd sz sec nz)],⟨rfl,(iI (di hs nd wr sz st ph sec nz lb ml po lo) (cH hs nd wr sz st ph sec nz lb ml po lo) (ac hs wr lb).length).length,0,by omega,by omega,by rw [hOk];rfl,by rw [hOk];rfl⟩,?_⟩
        rintro nM vs H ⟨i,hc2_0,rfl,rfl,rfl⟩
        refine yn ((i:Int)<(((iI (di hs nd wr sz st ph sec nz lb ml po lo) (cH hs nd wr sz st ph sec nz lb ml po lo) k).length:Nat):Int)) (fun h10=> ?_) fun h10=> ?_
        ·rw [hOk] at h10
         have hil:i<(iI (di hs nd wr sz st ph sec nz lb ml po lo) (cH hs nd wr sz st ph sec nz lb ml po lo) (ac hs wr lb).length).length:=by omega
         have hin:=hst.2 _ (bE (0, [],()) (iI (di hs nd wr sz st ph sec nz lb ml po lo) (cH hs nd wr sz st ph sec nz lb ml po lo) (ac hs wr lb).length) i hil)
         refine⟨ix i (iI (di hs nd wr sz st ph sec nz lb ml po lo) (cH hs nd wr sz st ph sec nz lb ml po lo) (ac hs wr lb).length).length,cO,6, [(13,.k),(16,.k),(17,.k),(112,.k),(113,.k),(114,.k),(118,.k),(119,.k),(120,.k)],fun nM vs H=>∃(m:Nat),m≤(dU hs nd sz sec nz).length∧nM=(dU hs nd sz sec nz).length-m∧vs= [.own (.cons (.int .i64) (.cons .str .nil)) 4,.ptr 5 1 0 0,.b ((iI (di hs nd wr sz st ph sec nz lb ml po lo) (cH hs nd wr sz st ph sec nz lb ml po lo) (ac hs wr lb).length).getD i (0, [],())∈(dU hs nd sz sec nz).take m),.own (.cons (.int .i64) (.cons .str .nil)) 2,.int .i64 (((iI (di hs nd wr sz st ph sec nz lb ml po lo) (cH hs nd wr sz st ph sec nz lb ml po lo) k).length:Nat):Int),.int .i64 (i:Int),.own (.cons (.int .i64) (.cons .str .nil)) 4,.int .i64 (((dU hs nd sz sec nz).length:Nat):Int),.int .i64 (m:Int)]∧H= [.cells [.sl false (.int .i64) hs,.int .i64 nd,.int .i64 wr,.int .i64 sz,.int .i64 st,.int .i64 ph,.str sec,.str nz,.int .u16 lb,.sl false (.cons dY (.cons (.int .i64) .nil)) ml,.sl false fN po,.sl false .bool lo],.cells [.sl true (.int .i64) (ac hs wr lb),.sl true (.cons (.int .i64) (.cons .str .nil)) (di hs nd wr sz st ph sec nz lb ml po lo),.sl true (.int .i64) (cH hs nd wr sz st ph sec nz lb ml po lo),.sl false fN (dR hs nd wr sz st ph sec nz lb ml po lo)],.row true (.cons (.int .i64) (.cons .str .nil)) (iI (di hs nd wr sz st ph sec nz lb ml po lo) (cH hs nd wr sz st ph sec nz lb ml po lo) (ac hs wr lb).length),.row true (.cons (.int .i64) (.cons (.int .i64) .nil)) (aS hs nd wr sz st ph (dR hs nd wr sz st ph sec nz lb ml po lo)),.row true (.cons (.int .i64) (.cons .str .nil)) (dU hs nd sz sec nz),.cells [.int .i64 (((iI (di hs nd wr sz st ph sec nz lb ml po lo) (cH hs nd wr sz st ph sec nz lb ml po lo) (ac hs wr lb).length).getD i (0,([],()))).1),.str ((((iI (di hs nd wr sz st ph sec nz lb ml po lo) (cH hs nd wr sz st ph sec nz lb ml po lo) (ac hs wr lb).length).getD i (0,([],()))).2).1)]],⟨rfl,(dU hs nd sz sec nz).length,0,by omega,by omega,by rw [←Ii];rfl,rfl⟩,?_⟩
         rintro nM vs H ⟨m,hc3_0,rfl,rfl,rfl⟩
         refine yn ((m:Int)<(((dU hs nd sz sec nz).length:Nat):Int)) (fun h11=> ?_) fun h11=> ?_
         ·refine⟨ix m (dU hs nd sz sec nz).length,cO,ny ((iI (di hs nd wr sz st ph sec nz lb ml po lo) (cH hs nd wr sz st ph sec nz lb ml po lo) (ac hs wr lb).length).getD i (0, [],())∈(dU hs nd sz sec nz).take m) (fun h12=> ?_) fun h12=> ?_⟩
          ·refine⟨ap (m+1),?_⟩
           first
           |exact⟨rfl,(dU hs nd sz sec nz).length-(m+1),by omega,m+1,by omega,rfl,by rw [←A8 (by omega) (by assumption)];rfl,rfl⟩
           |exact⟨rfl,(dU hs nd sz sec nz).length-(m+1),by omega,m+1,by omega,rfl,by rw [←A9 (by omega) (by assumption)];rfl,rfl⟩
          ·refine⟨ap (m+1),?_⟩
           first
           |exact⟨rfl,(dU hs nd sz sec nz).length-(m+1),by omega,m+1,by omega,rfl,by rw [←A8 (by omega) (by assumption)];rfl,rfl⟩
           |exact⟨rfl,(dU hs nd sz sec nz).length-(m+1),by omega,m+1,by omega,rfl,by rw [←A9 (by omega) (by assumption)];rfl,rfl⟩
         ·refine yn (¬((iI (di hs nd wr sz st ph sec nz lb ml po lo) (cH hs nd wr sz st ph sec nz lb ml po lo) (ac hs wr lb).length).getD i (0, [],())∈(dU hs nd sz sec nz).take m)) (fun h13=> ?_) fun h13=> ?_
          ·exact absurd (Mz (by omega) hin) h13
          ·refine⟨ap (i+1),?_⟩
           exact⟨rfl,(iI (di hs nd wr sz st ph sec nz lb ml po lo) (cH hs nd wr sz st ph sec nz lb ml po lo) (ac hs wr lb).length).length-(i+1),by omega,i+1,by omega,rfl,rfl,rfl⟩
        ·refine⟨trivial,?_⟩
         exact a6
      ·exact absurd (jD G.tk G.sec).e h8
end Go.Proofs.YtailffhfhekkpaaDoor.S62c
namespace Go.Proofs.YtailffhfhekkpaaDoor
set_option maxHeartbeats 20000000
open Go Go.Proofs.YtailffhfhekkpaaDoor.Vc Go.Proofs Go.Proofs.YtailffhfhekkpaaDoor.S62 Go.Proofs.YtailffhfhekkpaaDoor.S62c Go.ChangeShapes Go.WideShapes Go.ChangeAt Go.RowKit
set_option maxRecDepth 100000
set_option linter.unusedVariables false
section
namespace Cd.roundIsSafe
open Go.Proofs.YtailffhfhekkpaaDoor.Cd
theorem deep0:Deep Tryd.prog (.cons (.cons (.sl (.int .i64)) (.cons (.int .i64) (.cons (.int .i64) (.cons (.int .i64) (.cons (.int .i64) (.cons (.int .i64) .nil)))))) (.cons .str (.cons .str (.cons (.int .u16) (.cons (.sl (.cons (.cons (.int .i64) (.cons (.int .i64) (.cons (.int .i64) (.cons (.int .i64) (.cons (.sl .str) .nil))))) (.cons (.int .i64) .nil))) (.cons (.sl (.cons (.int .i64) (.cons (.sl (.int .i64)) .nil))) (.cons (.sl .bool) .nil))))))) (.inl 30):=⟨_,_,_,Tryd.underlying30,rfl,by kernel_rfl,by kernel_rfl,by kernel_rfl,⟨_,_,_,Tryd.underlying24,rfl,by kernel_rfl,by kernel_rfl,by kernel_rfl,⟨3,Tryd.underlying22,by kernel_rfl,by decide,Tryd.underlying3⟩,⟨by kernel_rfl,by kernel_rfl,Tryd.underlying3,⟨by kernel_rfl,by kernel_rfl,Tryd.underlying3,⟨by kernel_rfl,by kernel_rfl,Tryd.underlying3,⟨by kernel_rfl,by kernel_rfl,Tryd.underlying3,⟨by kernel_rfl,by kernel_rfl,Tryd.underlying3,trivial⟩⟩⟩⟩⟩⟩,⟨by kernel_rfl,by kernel_rfl,Tryd.underlying9,⟨by kernel_rfl,by kernel_rfl,Tryd.underlying9,⟨by kernel_rfl,by kernel_rfl,Tryd.underlying25,⟨by kernel_rfl,by kernel_rfl,⟨81,Tryd.underlying26,by kernel_rfl,by decide,⟨_,_,_,Tryd.underlying81,rfl,by kernel_rfl,by kernel_rfl,by kernel_rfl,⟨_,_,_,Tryd.underlying65,rfl,by kernel_rfl,by kernel_rfl,by kernel_rfl,Tryd.underlying3,⟨by kernel_rfl,by kernel_rfl,Tryd.underlying3,⟨by kernel_rfl,by kernel_rfl,Tryd.underlying3,⟨by kernel_rfl,by kernel_rfl,Tryd.underlying3,⟨by kernel_rfl,by kernel_rfl,⟨9,Tryd.underlying63,by kernel_rfl,by decide,Tryd.underlying9⟩,trivial⟩⟩⟩⟩⟩,⟨by kernel_rfl,by kernel_rfl,Tryd.underlying3,trivial⟩⟩⟩,⟨by kernel_rfl,by kernel_rfl,⟨71,Tryd.underlying27,by kernel_rfl,by decide,⟨_,_,_,Tryd.underlying71,rfl,by kernel_rfl,by kernel_rfl,by kernel_rfl,Tryd.underlying3,⟨by kernel_rfl,by kernel_rfl,⟨3,Tryd.underlying22,by kernel_rfl,by decide,Tryd.underlying3⟩,trivial⟩⟩⟩,⟨by kernel_rfl,by kernel_rfl,⟨4,Tryd.underlying28,by kernel_rfl,by decide,Tryd.underlying4⟩,trivial⟩⟩⟩⟩⟩⟩⟩
theorem rec0:Tryd.prog.readableRec 30=true:=by kernel_rfl
theorem lt0:30<Tryd.prog.types.size:=of_decide_eq_true (by kernel_rfl)
theorem globs {W:World} (h:laidMetH Tryd.prog Rows.roundIsSafeUptoRow.laid W):∀g x,lk G6 g=some x→VRel (c0 W) [] W x (.pointer (some ⟨g,0,none⟩)):=fun g x hx=>by
 have hg:Tryd.prog.globalNamed "quietus/gf.high" =some 0:=by kernel_rfl
 have ht:Lib.TabIs Tryd.prog W "quietus/gf.high" .u8 [0,29,58,39,116,105,78,83,232,245,210,207,156,129,166,187]:=Lib.tabIs_of_head (rest:= []) hg (by kernel_rfl) Tryd.underlying155 Tryd.underlying5 (by kernel_rfl) (by kernel_rfl) h
 have key:∀i,i<16→([0,29,58,39,116,105,78,83,232,245,210,207,156,129,166,187]:List Int).getD i 0=((hi.getD i 0).toNat:Int):=by decide
 have hc:∀i,i<hi.length→W.cell? ⟨0,i,none⟩=some (.int .u8 ((hi.getD i 0).toNat:Int)):=fun i hi'=>by
  have:=ht.cell hg i hi'
  rwa [key i hi'] at this
 unfold G6 lk at hx
 cases hb:Nat.beq 0 g with
 |false=>rw [hb] at hx;simp [lk] at hx
 |true=>
  rw [hb] at hx
  simp only [cond_true,Option.some.injEq] at hx
  have:=aY hb
  subst this hx
  exact Fa (m5 (hc 0 (by decide))).2 hc rfl
theorem contract (H:Type) (enc:TypeId×Value→H) (W:World) (base:Nat) (args:Array Value) (ds gs:List (DataW H)) (before:List MemPlace)
  (hval:∀(j:Nat) t v,Tryd.f4.params[j]? =some t→args[j]? =some v→Value.okWide Tryd.prog W .any base t v)
  (hW:DataW.Whole enc Tryd.prog Tryd.f4.params.toList Rows.roundIsSafeSpec.vars false W args.toList ds gs before) (hc:Rows.uptoSmall H (ds++gs)=true) (hL:laidMetH Tryd.prog Rows.roundIsSafeUptoRow.laid W):
  Calls Tryd.prog 4 args W fun e W'=>∃v,e= .returned v∧Rows.roundIsSafeSpec.post enc Tryd.prog Tryd.f4 false true false false W args v W':=by
 have hW':=hW
 obtain⟨p,q,hA0,hV,rfl,hfz,hnd⟩:=hW
 have hA:DataW.TrodAll enc Tryd.prog W 0 (fun _=>true) true Tryd.f4.params.toList args.toList ds p:=hA0
 rw [Tryd.params4] at hA hval
 obtain⟨v0,vs0,d0,ds0,p0,q0,hargs,rfl,rfl,h0,r0⟩:=trodAll_cons hA
 obtain⟨rfl,rfl,rfl⟩:=trodAll_nil r0
 obtain rfl:args= #[v0]:=by cases args;simp_all
 obtain⟨rfl,rfl⟩:=trodVars_none hV
 obtain⟨x0,rel0,w0,wf0⟩:=Jv (bk:=Rows.uptoBulk) W8 deep0 (hval 0 30 v0 rfl rfl) h0
 have hsum:Rows.uptoBulkAll [d0]≤1048576:=by simpa [Rows.uptoSmall] using hc
 simp only [Rows.uptoBulkAll] at hsum
 have hlt:∀x∈p0,x.block<W.heap.size:=fun x hx=>by simpa using hW'.lt x (by simpa using hx)
 refine(H8 Wj rfl Tryd.func4 (.cons _ _ _ _ rel0 (VRels.nil)) (globs hL) (bLSf x0.1.1 x0.1.2.1 x0.1.2.2.1 x0.1.2.2.2.1 x0.1.2.2.2.2.1 x0.1.2.2.2.2.2.1 x0.2.1 x0.2.2.1 x0.2.2.2.1 x0.2.2.2.2.1 x0.2.2.2.2.2.1 x0.2.2.2.2.2.2.1 (gf x0 (B:=1048576) (Nat.le_trans w0 (by omega))).1 (gf x0 (B:=1048576) (Nat.le_trans w0 (by omega))).2.1 (gf x0 (B:=1048576) (Nat.le_trans w0 (by omega))).2.2.1 (gf x0 (B:=1048576) (Nat.le_trans w0 (by omega))).2.2.2 wf0.2.2.2.1.1 wf0.2.2.2.1.2)).mono fun e W' ⟨he,hb⟩=> ?_
 subst he
 exact⟨_,rfl,sQ (pa:=(p0++ [])) (pv:= []) hW' (fun _ _ _=>trodAll_cons_mk (shut_bool Tryd.underlying4 _) trodAll_mk0) (fun sp hsp=>trodAll_cons_mk (WideElems.Trod_stays A3 rec0 lt0 h0 (fun x hx=>hb.same (hlt x (by simp [hx]))) (fun x hx=>hsp x (by simp [hx]))) (trodAll_mk0)) (fun _ _=>rfl) rfl hb (ok_one (by kernel_rfl) rfl (okWide_bool_mk Tryd.underlying4 _))⟩
noncomputable def laidWorld (os:Os):World:=
 {World.holding Tryd.prog os ⟨#[],#[], []⟩ with heap:=(World.holding Tryd.prog os ⟨#[],#[], []⟩).heap.modify 0 fun
   |.cells _ t frozen=> .cells #[.int .u8 0,.int .u8 29,.int .u8 58,.int .u8 39,.int .u8 116,.int .u8 105,.int .u8 78,.int .u8 83,.int .u8 232,.int .u8 245,.int .u8 210,.int .u8 207,.int .u8 156,.int .u8 129,.int .u8 166,.int .u8 187] t frozen
   |o=>o}
theorem laid_met (os:Os):laidMet Tryd.prog Rows.roundIsSafeUptoRow.laid ((laidWorld os).forCall (fun _ _=>0) ⟨#[],#[.agg #[.slice none 0 0,.int .i64 0,.int .i64 0,.int .i64 0,.int .i64 0,.int .i64 0,.string ⟨#[]⟩,.string ⟨#[]⟩,.int .u16 0,.slice none 0 0,.slice none 0 0,.slice none 0 0]], []⟩).memory:=
 laidMet_of_run' 8 (by kernel_rfl) (by kernel_rfl)
theorem reads (os:Os) {H:Type} (enc:TypeId×Value→H):∃places,DataW.whole enc Tryd.prog ((laidWorld os).forCall (fun _ _=>0) ⟨#[],#[.agg #[.slice none 0 0,.int .i64 0,.int .i64 0,.int .i64 0,.int .i64 0,.int .i64 0,.string ⟨#[]⟩,.string ⟨#[]⟩,.int .u16 0,.slice none 0 0,.slice none 0 0,.slice none 0 0]], []⟩).memory Tryd.f4.params.toList Rows.roundIsSafeSpec.vars false (#[.agg #[.slice none 0 0,.int .i64 0,.int .i64 0,.int .i64 0,.int .i64 0,.int .i64 0,.string ⟨#[]⟩,.string ⟨#[]⟩,.int .u16 0,.slice none 0 0,.slice none 0 0,.slice none 0 0]]:Array Value).toList 8=some ([.agg [.agg [.nil,.lit (.int .i64 0),.lit (.int .i64 0),.lit (.int .i64 0),.lit (.int .i64 0),.lit (.int .i64 0)],.lit (.string []),.lit (.string []),.lit (.int .u16 0),.nil,.nil,.nil]], [],places):=
 ⟨[],by kernel_rfl⟩
theorem liftedUpto (os:Os) (started:os.Started) (H:Type) (enc:TypeId×Value→H) (F:Stop.Interp):
  ReturnsInHanded {} Tryd.checked os 4 .any ((Rows.OpenSpec.upto Rows.roundIsSafeSpec).preRow enc Tryd.prog Tryd.f4 Rows.roundIsSafeUptoRow.domain false Rows.roundIsSafeUptoRow.laid) (((Rows.OpenSpec.upto Rows.roundIsSafeSpec).at F).post enc Tryd.prog Tryd.f4 false true false false):=by
 obtain⟨places,hx⟩:=reads os enc
 refine returnsInHanded_of_row (C:=Tryd.checked) (s:=Rows.OpenSpec.upto Rows.roundIsSafeSpec) own started (by kernel_rfl) Tryd.func4
  (witness_row_at (enc:=enc) (C:=Tryd.checked) false (laidWorld os) #[.agg #[.slice none 0 0,.int .i64 0,.int .i64 0,.int .i64 0,.int .i64 0,.int .i64 0,.string ⟨#[]⟩,.string ⟨#[]⟩,.int .u16 0,.slice none 0 0,.slice none 0 0,.slice none 0 0]] rfl (by kernel_rfl) (by kernel_rfl) (by kernel_rfl)
   (OpenSpec.preRow_of_cond 8 hx (by kernel_rfl) (fun k hk=>by cases hk;kernel_rfl) (by kernel_rfl) (laid_met os))) ?_
 intro W base args ds gs before hval hW _ hcond _ hL _ _
 exact contract H enc W base args ds gs before hval hW (hcond _ rfl) hL
theorem saidUpto:Rows.RoundIsSafeUptoSaid:=
 OpenClaim.holds_of_cond 4 Tryd.f4 rfl rfl rfl rfl rfl rfl rfl ⟨rfl,rfl,rfl,rfl,rfl⟩ rfl rfl rfl rfl rfl (by kernel_rfl) Tryd.func4 (by kernel_rfl)
  (of_decide_eq_true (by kernel_rfl)) (by unfold Func.isWrapper;first|(rw [if_pos (by decide+kernel)];kernel_rfl)|(rw [if_neg (by decide+kernel)];exact⟨rfl,rfl⟩))
  (fun os started H enc _ F=>by rw [OpenClaim.pre_eq_preRow];exact liftedUpto os started H enc F)
theorem plain (f:FuncId) (fn:Func) (hf:Tryd.pinned.checked.prog.funcNamed "quietus/quietuslaw28.RoundIsSafe" =some f) (hfn:Tryd.pinned.checked.prog.funcs[f]? =some fn):
  false=Tryd.pinned.checked.prog.looks []∧∀(j:Nat) t,fn.params[j]? =some t→Tryd.pinned.checked.prog.wantsStandIn t=false:=by
 obtain rfl:f=4:=Option.some.inj ((show Tryd.prog.funcNamed "quietus/quietuslaw28.RoundIsSafe" =some 4 by kernel_rfl).symm.trans hf)|>.symm
 obtain rfl:fn=Tryd.f4:=(Option.some.inj (Tryd.func4.symm.trans hfn)).symm
 refine⟨by kernel_rfl,fun j t ht=> ?_⟩
 rw [Tryd.params4] at ht
 have hm:=Array.mem_of_getElem? ht
 simp only [List.mem_toArray,List.mem_cons,List.not_mem_nil,or_false] at hm
 subst hm
 exact(show Tryd.prog.wantsStandIn 30=false by kernel_rfl)
theorem cardUpto:Rows.RoundIsSafeUptoCardSaid:=
 Claim7.holds_tied_plain_at .later [] _ _ _ _ saidUpto (fun _ h=>by cases h) (by kernel_rfl) (fun _ h=>by cases h) roundIsSafeUpto_row_tie rfl ⟨rfl,rfl⟩ (by kernel_rfl) rfl plain (by kernel_rfl)
end Cd.roundIsSafe
theorem roundIsSafe_holds :Rows.RoundIsSafeUptoCardSaid:=Cd.roundIsSafe.cardUpto
end
end Go.Proofs.YtailffhfhekkpaaDoor

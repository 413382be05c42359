/- Texts of this claim. -/
import Derived.Test.YtailffhfhekkpaaDoorS6
set_option linter.unusedVariables false
set_option linter.unusedSimpArgs false
set_option linter.unusedSectionVars false
namespace Go.Proofs.YtailffhfhekkpaaDoor.S62c
set_option maxHeartbeats 20000000
open Go Go.Proofs.YtailffhfhekkpaaDoor.Vc Go.Proofs Go.Proofs.YtailffhfhekkpaaDoor.S62
section
section
variable {hs hon:List Int} {nd sz st ph:Int} {rt:Nat→Int→e7} {R0:Int→List e7} {h:Int} {sh:List UInt8} {s:gX} {x:Ml×Int}
def Ca (hs hon:List Int) (rt:Nat→Int→e7) (x:Ml×Int):Prop:=x.1.1=1∧x.1.2.1=x.1.2.2.2.1∧∃k:Nat,k<hs.length∧hs.getD k 0=x.1.2.2.2.1∧x.1.2.2.2.2.1=rt k x.1.2.2.1
def B9 (hs hon:List Int) (R0:Int→List e7) (x:Ml×Int):Prop:=x.1.1=2∧x.1.2.1∈hon∧∃k:Nat,k<hs.length∧hs.getD k 0=x.1.2.2.2.1∧((R0 x.1.2.1).getD k []).length≠0∧x.1.2.2.2.2.1= [dK ((R0 x.1.2.1).getD k []) x.1.2.2.1]
theorem G1.lie (g:G1 hs hon nd sz rt h sh s) (hf:x.1.2.1∉hon):G1 hs hon nd sz rt h sh (jo hs nd sz st ph s x):=by
 refine⟨g.me,g.shr,g.ok.rcv,fun k hk hh=> ?_,fun k j hk hj hh=> ?_⟩
 ·rcases tZ (hs:=hs) (nd:=nd) (sz:=sz) (st:=st) (ph:=ph) (me:=s.1) (R:=s.2.2.1) (mk:=x.1.1) (f:=x.1.2.1) (t:=x.1.2.2.1) (d:=x.1.2.2.2.1) (ss:=x.1.2.2.2.2.1) (tick:=x.2) k with e|⟨e,e2,_⟩
  ·show(cZ _ _ _ _ _ _ _ _ _ _ _ _ _).getD k []= []∨(cZ _ _ _ _ _ _ _ _ _ _ _ _ _).getD k []=_
   rw [e];exact g.rows k hk hh
  ·obtain⟨a1,a2,a3,_⟩:=e
   obtain⟨_,_,n3,n4,_⟩:=pC a1
   refine absurd hh ?_
   rw [←e2,n4,←a3]
   exact hf
 ·rcases mA (hs:=hs) (sz:=sz) (st:=st) (ph:=ph) (me:=s.1) (W:=s.2.2.2.1) (mk:=x.1.1) (f:=x.1.2.1) (t:=x.1.2.2.1) (d:=x.1.2.2.2.1) (ss:=x.1.2.2.2.2.1) (tick:=x.2) k j with e|⟨e,_,e2,_⟩
  ·show((cq _ _ _ _ _ _ _ _ _ _ _ _).getD k []).getD j []= []
   rw [e];exact g.vals k j hk hj hh
  ·obtain⟨_,_,n3,_⟩:=pC e.1
   refine absurd hh ?_
   rw [←e2,n3]
   exact hf
theorem G1.row (ho:jz (-1) hs=true) (g:G1 hs hon nd sz rt h sh s) (hx:Ca hs hon rt x) (ht:x.1.2.2.1=h):G1 hs hon nd sz rt h sh (jo hs nd sz st ph s x):=by
 obtain⟨x1,x2,k0,k1,k2,k3⟩:=hx
 refine⟨g.me,g.shr,g.ok.rcv,fun k hk hh=> ?_,fun k j hk hj hh=> ?_⟩
 ·rcases tZ (hs:=hs) (nd:=nd) (sz:=sz) (st:=st) (ph:=ph) (me:=s.1) (R:=s.2.2.1) (mk:=x.1.1) (f:=x.1.2.1) (t:=x.1.2.2.1) (d:=x.1.2.2.2.1) (ss:=x.1.2.2.2.2.1) (tick:=x.2) k with e|⟨_,e2,e3⟩
  ·show(cZ _ _ _ _ _ _ _ _ _ _ _ _ _).getD k []= []∨(cZ _ _ _ _ _ _ _ _ _ _ _ _ _).getD k []=_
   rw [e];exact g.rows k hk hh
  ·right
   show(cZ _ _ _ _ _ _ _ _ _ _ _ _ _).getD k []=_
   rw [e3,k3,ht]
   rw [←k2,jJ ho k1] at e2
   rw [e2]
 ·rcases mA (hs:=hs) (sz:=sz) (st:=st) (ph:=ph) (me:=s.1) (W:=s.2.2.2.1) (mk:=x.1.1) (f:=x.1.2.1) (t:=x.1.2.2.1) (d:=x.1.2.2.2.1) (ss:=x.1.2.2.2.2.1) (tick:=x.2) k j with e|⟨e,_⟩
  ·show((cq _ _ _ _ _ _ _ _ _ _ _ _).getD k []).getD j []= []
   rw [e];exact g.vals k j hk hj hh
  ·have:=e.2.1;omega
theorem wc {hs:List Int} {nd sz st ph me:Int} {R:List e7} {mk f t d:Int} {ss:e7} {tick:Int} (ht:st+ph≤tick):cZ hs nd sz st ph me R mk f t d ss tick=R:=if_neg fun g=>by have:=g.2.2.2.2.2;omega
theorem G2.lie (g:G2 hs hon nd sz R0 h sh s) (hf:x.1.2.1∉hon) (ht:st+ph≤x.2):G2 hs hon nd sz R0 h sh (jo hs nd sz st ph s x):=by
 refine⟨g.me,g.shr,g.ok.rcv,?_,fun k j hk hj hh hne=> ?_⟩
 ·show cZ _ _ _ _ _ _ _ _ _ _ _ _ _=_
  rw [wc ht];exact g.rows
 ·rcases mA (hs:=hs) (sz:=sz) (st:=st) (ph:=ph) (me:=s.1) (W:=s.2.2.2.1) (mk:=x.1.1) (f:=x.1.2.1) (t:=x.1.2.2.1) (d:=x.1.2.2.2.1) (ss:=x.1.2.2.2.2.1) (tick:=x.2) k j with e|⟨e,_,e2,_⟩
  ·show((cq _ _ _ _ _ _ _ _ _ _ _ _).getD k []).getD j []= []∨_∧((cq _ _ _ _ _ _ _ _ _ _ _ _).getD k []).getD j []=_
   rw [e];exact g.vals k j hk hj hh hne
  ·obtain⟨_,_,n3,_⟩:=pC e.1
   refine absurd hh ?_
   rw [←e2,n3]
   exact hf
theorem G2.val (ho:jz (-1) hs=true) (g:G2 hs hon nd sz R0 h sh s) (hx:B9 hs hon R0 x) (ht:x.1.2.2.1=h) (htk:st+ph≤x.2):G2 hs hon nd sz R0 h sh (jo hs nd sz st ph s x):=by
 obtain⟨x1,x2,k0,k1,k2,k3,k4⟩:=hx
 refine⟨g.me,g.shr,g.ok.rcv,?_,fun k j hk hj hh hne=> ?_⟩
 ·show cZ _ _ _ _ _ _ _ _ _ _ _ _ _=_
  rw [wc htk];exact g.rows
 ·show((cq _ _ _ _ _ _ _ _ _ _ _ _).getD k []).getD j []= []∨_∧((cq _ _ _ _ _ _ _ _ _ _ _ _).getD k []).getD j []=_
  rcases mA (hs:=hs) (sz:=sz) (st:=st) (ph:=ph) (me:=s.1) (W:=s.2.2.2.1) (mk:=x.1.1) (f:=x.1.2.1) (t:=x.1.2.2.1) (d:=x.1.2.2.2.1) (ss:=x.1.2.2.2.2.1) (tick:=x.2) k j with e|⟨e,e1,e2,e3⟩
  ·rw [e];exact g.vals k j hk hj hh hne
  ·right
   obtain⟨_,_,n3,_⟩:=pC e.1
   rw [←k2,jJ ho k1] at e1
   rw [e2] at n3
   rw [e3,k4,n3,←e1,ht]
   exact⟨k3,rfl⟩
theorem ik {S D:Type} (f:S→D→S) (G:S→Prop):∀(L:List D) (s:S),G s→(∀x∈L,∀s,G s→G (f s x))→G (L.foldl f s)
 |[],_,g,_=>g
 |x::L,s,g,h=>ik f G L (f s x) (h x List.mem_cons_self s g) fun y hy=>h y (List.mem_cons_of_mem _ hy)
theorem rC {S D:Type} (f:S→D→S) (G Q:S→Prop):∀(L:List D) (s:S),G s→(∀x∈L,∀s,G s→G (f s x))→(∀x∈L,∀s,G s→Q s→Q (f s x))→(∃x∈L,∀s,G s→Q (f s x))→Q (L.foldl f s)
 |[],_,_,_,_,⟨_,h,_⟩=>by cases h
 | x::L,s,g,hg,hq,⟨y,hy,hit⟩=>by
  have g':=hg x List.mem_cons_self s g
  rcases List.mem_cons.1 hy with rfl|hy
  ·have q:=hit s g
   exact(ik f (fun s=>G s∧Q s) L (f s y) ⟨g',q⟩ fun z hz s ⟨a,b⟩=>⟨hg z (List.mem_cons_of_mem _ hz) s a,hq z (List.mem_cons_of_mem _ hz) s a b⟩).2
  ·exact rC f G Q L (f s x) g' (fun z hz=>hg z (List.mem_cons_of_mem _ hz)) (fun z hz=>hq z (List.mem_cons_of_mem _ hz)) ⟨y,hy,hit⟩
theorem nA (k:Nat) (hr:(s.2.2.1.getD k []).length≠0):(jo hs nd sz st ph s x).2.2.1.getD k []=s.2.2.1.getD k []:=by
 rcases tZ (hs:=hs) (nd:=nd) (sz:=sz) (st:=st) (ph:=ph) (me:=s.1) (R:=s.2.2.1) (mk:=x.1.1) (f:=x.1.2.1) (t:=x.1.2.2.1) (d:=x.1.2.2.2.1) (ss:=x.1.2.2.2.2.1) (tick:=x.2) k with e|⟨e,e2,_⟩
 ·exact e
 ·exact absurd (by rw [←e2];exact e.2.2.2.1) hr
theorem sC (k j:Nat) (hr:((s.2.2.2.1.getD k []).getD j []).length≠0):((jo hs nd sz st ph s x).2.2.2.1.getD k []).getD j []=(s.2.2.2.1.getD k []).getD j []:=by
 rcases mA (hs:=hs) (sz:=sz) (st:=st) (ph:=ph) (me:=s.1) (W:=s.2.2.2.1) (mk:=x.1.1) (f:=x.1.2.1) (t:=x.1.2.2.1) (d:=x.1.2.2.2.1) (ss:=x.1.2.2.2.2.1) (tick:=x.2) k j with e|⟨e,e1,e2,_⟩
 ·exact e
 ·exact absurd (by rw [←e1,←e2];exact e.2.2.1) hr
end
end
section
def lH (hs:List Int) (nd sz:Int) (nz:Int→List UInt8) (k:Nat) (h:Int):e7:=dZ (oj nd sz (nz (hs.getD k 0))) (kz nd sz (nz (hs.getD k 0))) h
theorem qa {nd sz:Int} {z:List UInt8} (hm:oM nd sz z=0) {h:Int} (hh:0≤h∧h<12):dZ (oj nd sz z) (kz nd sz z) h=iV (kz nd sz z) h∧Deal nd (kz nd sz z):=by
 obtain⟨h1,h2⟩:=uE hm
 have e:oj nd sz z=nd:=if_pos hm
 rw [e]
 refine⟨if_pos ?_,xR h1⟩
 unfold qA
 rw [if_pos h1,if_pos (show gG h from hh)]
theorem qZ {nd sz:Int} {z:List UInt8} (hm:oM nd sz z=0) (hz:1≤sz) {h:Int} (hh:0≤h∧h<12):yI (dZ (oj nd sz z) (kz nd sz z) h) (nd-1) sz∧(dZ (oj nd sz z) (kz nd sz z) h).length≠0:=by
 obtain⟨e,D⟩:=qa hm hh
 have hl:(dZ (oj nd sz z) (kz nd sz z) h).length≠0:=by
  rw [e]
  unfold iV
  rw [List.length_map]
  have:=D.len;have:=D.n2
  omega
 rcases uD hm h with g|⟨g1,g2⟩
 ·exact absurd g hl
 ·exact⟨⟨g1,fun⟨s,h1,h2⟩=>h2 (g2 s h1)⟩,hl⟩
theorem Hq {nd sz:Int} {z:List UInt8} (hm:oM nd sz z=0) (hn:2≤nd∧nd≤12) (hz:1≤sz∧sz≤4096) {a b:Int} (ha:0≤a∧a<12) (hb:0≤b∧b<12):
  dK (dZ (oj nd sz z) (kz nd sz z) a) b=dK (dZ (oj nd sz z) (kz nd sz z) b) a:=by
 obtain⟨s1,l1⟩:=qZ hm hz.1 ha
 obtain⟨s2,l2⟩:=qZ hm hz.1 hb
 have o1:qN nd sz (dZ (oj nd sz z) (kz nd sz z) a):=uD hm a
 have o2:qN nd sz (dZ (oj nd sz z) (kz nd sz z) b):=uD hm b
 obtain⟨e1,D⟩:=qa hm ha
 obtain⟨e2,_⟩:=qa hm hb
 have hz0:0<sz.toNat:=by omega
 refine pM (N:=sz.toNat) (gg hn hz o1 l1 hb hz0).1 (gg hn hz o2 l2 ha hz0).1 fun k hk=> ?_
 rw [(gg hn hz o1 l1 hb hk).2,(gg hn hz o2 l2 ha hk).2,e1,e2]
 exact Lr D a b k (by rw [(uE hm).2];exact hk)
section
variable {hs hon:List Int} {nd wr sz st ph:Int} {nz:Int→List UInt8} {h:Int} {sh:List UInt8}
theorem G1.beg (hb:dP hs nd wr sz st ph h sh (nz h)=0):G1 hs hon nd sz (lH hs nd sz nz) h sh (xZ hs nd wr sz st ph h sh (nz h),uy hs nd wr sz st ph h sh (nz h),mb hs nd wr sz st ph h sh (nz h),oo hs nd wr sz st ph h sh (nz h),()):=by
 obtain⟨b1,b2,b3,b4⟩:=mZ hb
 obtain⟨e1,e2,e3,e4,_⟩:=ng hb
 have hT:=E7 b1
 refine⟨e1,e2,SOk.beg hb,fun k hk hh=> ?_,fun k j hk hj hh=> ?_⟩
 ·show(mb hs nd wr sz st ph h sh (nz h)).getD k []= []∨(mb hs nd wr sz st ph h sh (nz h)).getD k []=_
  rw [e3,gk]
  split
  ·rename_i g
   right
   unfold lH
   rw [←g.1,(eO b2).2.2]
  ·left
   rw [gD (by rw [List.length_replicate];exact hk),List.getElem_replicate]
 ·show((oo hs nd wr sz st ph h sh (nz h)).getD k []).getD j []= []
  have r0:∀{α:Type} (d a:α) (n i:Nat),i<n→(List.replicate n a).getD i d=a:=fun d a n i h=>by rw [gD (by rw [List.length_replicate];exact h),List.getElem_replicate]
  rw [e4,r0 _ _ _ _ hk,r0 _ _ _ _ hj]
theorem Nv (hb:dP hs nd wr sz st ph h sh (nz h)=0):(mb hs nd wr sz st ph h sh (nz h)).getD (aj h hs 0).toNat []=lH hs nd sz nz (aj h hs 0).toNat h:=by
 obtain⟨b1,b2,b3,b4⟩:=mZ hb
 obtain⟨_,_,e3,_⟩:=ng hb
 rw [e3,gk,if_pos ⟨rfl,by rw [List.length_replicate];exact(eO b2).2.1⟩]
 unfold lH
 rw [(eO b2).2.2]
end
end
section
def bL (es:List (Int×gX)) (h:Int):List e7:=match aa es h with|some s=>s.2.2.1|none=> []
def cz (es:List (Int×gX)) (h:Int):List (List e7):=match aa es h with|some s=>s.2.2.2.1|none=> []
structure Run (hs:List Int) (nd wr sz st ph:Int) (hon:List Int) (nz sh:Int→List UInt8) (es0:List (Int×gX)) (D1 D2:List (Ml×Int)):Prop where
 tk:Tk hs nd wr sz st ph
 sub:hon.Sublist hs
 many:(hs.length:Int)≤hon.length+wr
 beg:∀h∈hon,dP hs nd wr sz st ph h (sh h) (nz h)=0
 start:∀h∈hon,aa es0 h=some (xZ hs nd wr sz st ph h (sh h) (nz h),uy hs nd wr sz st ph h (sh h) (nz h),mb hs nd wr sz st ph h (sh h) (nz h),oo hs nd wr sz st ph h (sh h) (nz h),())
 one:∀x∈D1,x.1.2.1∉hon∨Ca hs hon (lH hs nd sz nz) x
 two:∀x∈D2,st+ph≤x.2∧(x.1.2.1∉hon∨B9 hs hon (bL (aM hs nd sz st ph es0 D1)) x)
section
variable {hs:List Int} {nd wr sz st ph:Int} {hon:List Int} {nz sh:Int→List UInt8} {es0:List (Int×gX)} {D1 D2:List (Ml×Int)} (P:Run hs nd wr sz st ph hon nz sh es0 D1 D2)
include P
theorem Ax {h:Int} {D:List (Ml×Int)} {x:Ml×Int} (hx:x∈lA h D):x∈D∧x.1.2.2.1=h:=by
 obtain⟨h1,h2⟩:=List.mem_filter.1 hx
 exact⟨h1,of_decide_eq_true h2⟩
theorem Run.keep1 {h:Int}:∀x∈lA h D1,∀s,G1 hs hon nd sz (lH hs nd sz nz) h (sh h) s→G1 hs hon nd sz (lH hs nd sz nz) h (sh h) (jo hs nd sz st ph s x):=fun x hx s g=>by
 obtain⟨h1,h2⟩:=Ax P hx
 rcases P.one x h1 with e|e
 ·exact g.lie e
 ·exact g.row P.tk.ho e h2
theorem Run.mid {h:Int} (hh:h∈hon):∃s,aa (aM hs nd sz st ph es0 D1) h=some s∧s=(lA h D1).foldl (jo hs nd sz st ph) (xZ hs nd wr sz st ph h (sh h) (nz h),uy hs nd wr sz st ph h (sh h) (nz h),mb hs nd wr sz st ph h (sh h) (nz h),oo hs nd wr sz st ph h (sh h) (nz h),())∧
  G1 hs hon nd sz (lH hs nd sz nz) h (sh h) s:=by
 rw [gw,P.start h hh]
 exact⟨_,rfl,rfl,ik _ _ _ _ (G1.beg (P.beg h hh)) P.keep1⟩
theorem Run.keep2 {h:Int}:∀x∈lA h D2,∀s,G2 hs hon nd sz (bL (aM hs nd sz st ph es0 D1)) h (sh h) s→G2 hs hon nd sz (bL (aM hs nd sz st ph es0 D1)) h (sh h) (jo hs nd sz st ph s x):=fun x hx s g=>by
 obtain⟨h1,h2⟩:=Ax P hx
 obtain⟨t,e|e⟩:=P.two x h1
 ·exact g.lie e t
 ·exact g.val P.tk.ho e h2 t
theorem Run.fin {h:Int} (hh:h∈hon):∃s0 s,aa (aM hs nd sz st ph es0 D1) h=some s0∧aa (aM hs nd sz st ph (aM hs nd sz st ph es0 D1) D2) h=some s∧s=(lA h D2).foldl (jo hs nd sz st ph) s0∧
  G2 hs hon nd sz (bL (aM hs nd sz st ph es0 D1)) h (sh h) s0∧G2 hs hon nd sz (bL (aM hs nd sz st ph es0 D1)) h (sh h) s:=by
 obtain⟨s0,e0,_,g⟩:=P.mid hh
 have g2:G2 hs hon nd sz (bL (aM hs nd sz st ph es0 D1)) h (sh h) s0:=⟨g.me,g.shr,g.ok,by unfold bL;rw [e0],fun k j hk hj hj2 _=> .inl (g.vals k j hk hj hj2)⟩
 refine⟨s0,_,e0,?_,rfl,g2,ik _ _ _ _ g2 P.keep2⟩
 rw [gw,e0];rfl
theorem Run.played {l:List RP} (hp:∀h∈hon,aa (fU hs l) h=some (eN hs h (bL (aM hs nd sz st ph es0 D1) h) (cz (aM hs nd sz st ph (aM hs nd sz st ph es0 D1) D2) h))):
  Played hs nd wr sz st ph hon (bL (aM hs nd sz st ph es0 D1)) (cz (aM hs nd sz st ph (aM hs nd sz st ph es0 D1) D2)) l:=by
 have F:∀h∈hon,∃s,s.2.2.1=bL (aM hs nd sz st ph es0 D1) h∧cz (aM hs nd sz st ph (aM hs nd sz st ph es0 D1) D2) h=s.2.2.2.1∧G2 hs hon nd sz (bL (aM hs nd sz st ph es0 D1)) h (sh h) s:=fun h hh=>by
  obtain⟨s0,s,_,e,_,_,g⟩:=P.fin hh
  exact⟨s,g.rows,by unfold cz;rw [e],g⟩
 refine⟨P.tk,P.sub,P.many,fun h hh=> ?_,fun h hh=> ?_,fun h hh k j hk hj hj2 hne=> ?_,fun h hh=> ?_,hp⟩
 ·obtain⟨s,e1,_,g⟩:=F h hh
  rw [←e1];exact g.ok.rl
 ·obtain⟨s,e1,_,g⟩:=F h hh
  rw [←e1];exact g.ok.ro
 ·obtain⟨s,_,e2,g⟩:=F h hh
  rw [e2];exact g.vals k j hk hj hj2 hne
 ·obtain⟨s,_,e2,g⟩:=F h hh
  rw [e2];exact g.ok.szd
theorem Run.bd {h:Int} (hh:h∈hon):0≤h∧h<12:=P.tk.hs12 h (P.sub.subset hh)
theorem Run.gotRow {h:Int} (hh:h∈hon) {k:Nat} (hk:k<hs.length) (hd:hs.getD k 0∈hon)
  (hx:hs.getD k 0≠h→∃x∈D1,Ca hs hon (lH hs nd sz nz) x∧x.1.2.2.1=h∧x.1.2.2.2.1=hs.getD k 0∧x.2=st):
  (bL (aM hs nd sz st ph es0 D1) h).getD k []=lH hs nd sz nz k h∧((bL (aM hs nd sz st ph es0 D1) h).getD k []).length≠0:=by
 obtain⟨s,e0,e1,g⟩:=P.mid hh
 have er:bL (aM hs nd sz st ph es0 D1) h=s.2.2.1:=by unfold bL;rw [e0]
 rw [er]
 have hm:oM nd sz (nz (hs.getD k 0))=0:=(mZ (P.beg _ hd)).2.2.1
 have hz:=P.tk.rg.1.2.2.1
 have hph:=P.tk.rg.1.2.2.2.2
 obtain⟨q1,q2⟩:=qZ hm hz.1 (P.bd hh)
 have key:(s.2.2.1.getD k []).length≠0:=by
  by_cases e:hs.getD k 0=h
  ·
   rw [e1]
   refine(ik (jo hs nd sz st ph) (fun s=>(s.2.2.1.getD k []).length≠0) (lA h D1) _ ?_ fun x _ s g=>by rw [nA k g];exact g)
   have hi:(aj h hs 0).toNat=k:=by rw [←e];exact jJ P.tk.ho hk
   have:=Nv (P.beg h hh)
   rw [hi] at this
   show((mb hs nd wr sz st ph h (sh h) (nz h)).getD k []).length≠0
   rw [this]
   exact q2
  ·obtain⟨x,x1,x2,x3,x4,x5⟩:=hx e
   rw [e1]
   refine rC (jo hs nd sz st ph) (G1 hs hon nd sz (lH hs nd sz nz) h (sh h)) (fun s=>(s.2.2.1.getD k []).length≠0) (lA h D1) _ (G1.beg (P.beg h hh)) P.keep1 (fun y _ s _ g=>by rw [nA k g];exact g) ⟨x,List.mem_filter.2 ⟨x1,decide_eq_true x3⟩,fun s g=> ?_⟩
   by_cases h0:(s.2.2.1.getD k []).length≠0
   ·rw [nA k h0];exact h0
   ·have h0:=nw h0
    obtain⟨y1,y2,k',y3,y4,y5⟩:=x2
    have hkk:k'=k:=by
     rw [x4] at y4
     exact jw P.tk.ho y3 hk y4
    subst hkk
    have hi:(aj x.1.2.2.2.1 hs 0).toNat=k':=by rw [x4];exact jJ P.tk.ho hk
    obtain⟨i0,_,_⟩:=eO (bE 0 hs k' hk)
    rw [←x4] at i0
    have hP:Gh hs nd sz st ph s.1 s.2.2.1 x.1.1 x.1.2.1 x.1.2.2.1 x.1.2.2.2.1 x.1.2.2.2.2.1 x.2:=by
     refine⟨?_,y1,y2,by rw [hi];exact h0,by rw [y5,x3];exact q1,by omega⟩
     unfold c6
     rw [g.me,x3,y2,x5]
     rw [x4] at i0 ⊢
     omega
    show((cZ hs nd sz st ph s.1 s.2.2.1 x.1.1 x.1.2.1 x.1.2.2.1 x.1.2.2.2.1 x.1.2.2.2.2.1 x.2).getD k' []).length≠0
    unfold cZ
    rw [if_pos hP,hi,gk,if_pos ⟨rfl,by rw [g.ok.rl];exact hk⟩,y5,x3]
    exact q2
 refine⟨?_,key⟩
 rcases g.rows k hk hd with e|e
 ·rw [e] at key;exact absurd rfl key
 ·exact e
theorem Run.gotVal {h:Int} (hh:h∈hon) {k j:Nat} (hk:k<hs.length) (hj:j<hs.length) (hd:hs.getD j 0∈hon) (hne:hs.getD j 0≠h)
  (hx:∃x∈D2,B9 hs hon (bL (aM hs nd sz st ph es0 D1)) x∧x.1.2.2.1=h∧x.1.2.1=hs.getD j 0∧x.1.2.2.2.1=hs.getD k 0∧x.2=st+ph):
  0<(((cz (aM hs nd sz st ph (aM hs nd sz st ph es0 D1) D2) h).getD k []).getD j []).length:=by
 obtain⟨s0,s,_,e,e1,g0,g⟩:=P.fin hh
 have er:cz (aM hs nd sz st ph (aM hs nd sz st ph es0 D1) D2) h=s.2.2.2.1:=by unfold cz;rw [e]
 rw [er]
 have hn:=P.tk.rg.1.1
 have hz:=P.tk.rg.1.2.2.1
 have hph:=P.tk.rg.1.2.2.2.2
 obtain⟨x,x1,x2,x3,x4,x5,x6⟩:=hx
 have key:((s.2.2.2.1.getD k []).getD j []).length≠0:=by
  rw [e1]
  refine rC (jo hs nd sz st ph) (G2 hs hon nd sz (bL (aM hs nd sz st ph es0 D1)) h (sh h)) (fun s=>((s.2.2.2.1.getD k []).getD j []).length≠0) (lA h D2) _ g0 P.keep2 (fun y _ s _ g=>by rw [sC k j g];exact g) ⟨x,List.mem_filter.2 ⟨x1,decide_eq_true x3⟩,fun s g=> ?_⟩
  by_cases h0:((s.2.2.2.1.getD k []).getD j []).length≠0
  ·rw [sC k j h0];exact h0
  ·have h0:=nw h0
   obtain⟨y1,y2,k',y3,y4,y5,y6⟩:=x2
   have hkk:k'=k:=by
    rw [x5] at y4
    exact jw P.tk.ho y3 hk y4
   subst hkk
   have hi:(aj x.1.2.2.2.1 hs 0).toNat=k':=by rw [x5];exact jJ P.tk.ho hk
   have hi2:(aj x.1.2.1 hs 0).toNat=j:=by rw [x4];exact jJ P.tk.ho hj
   obtain⟨i0,_,_⟩:=eO (bE 0 hs k' hk)
   obtain⟨i1,_,_⟩:=eO (bE 0 hs j hj)
   obtain⟨t0,_,_,_,_,tg,_⟩:=P.fin y2
   have ho:=t6 tg.ok.ro k'
   rw [tg.rows] at ho
   have hvs:=(gg hn hz ho y5 (P.bd hh) (show 0<sz.toNat by omega)).1
   have hS:yI x.1.2.2.2.2.1 1 sz:=by
    rw [y6,x3]
    refine⟨rfl,fun⟨v,hv,h2⟩=>h2 ?_⟩
    rw [List.mem_singleton.1 hv,hvs]
    omega
   have hP:Gg hs sz st ph s.1 s.2.2.2.1 x.1.1 x.1.2.1 x.1.2.2.1 x.1.2.2.2.1 x.1.2.2.2.2.1 x.2:=by
    refine⟨?_,y1,by rw [hi,hi2];exact h0,hS,by omega⟩
    unfold c6
    rw [g.me,x3,x6,x4,x5]
    omega
   show(((cq hs sz st ph s.1 s.2.2.2.1 x.1.1 x.1.2.1 x.1.2.2.1 x.1.2.2.2.1 x.1.2.2.2.2.1 x.2).getD k' []).getD j []).length≠0
   unfold cq
   rw [if_pos hP,hi,hi2,gk,if_pos ⟨rfl,by rw [g.ok.vl];exact hk⟩,gk,if_pos ⟨rfl,by
    rw [g.ok.vv _ (bE [] _ k' (by rw [g.ok.vl];exact hk))];exact hj⟩,y6]
   exact Nat.one_ne_zero
 omega
end
end
theorem Gl {hs:List Int} (hb:∀x∈hs,0≤x∧x<12) {me:Int} (hm:me∈hs) {R:List e7} {W:List (List e7)} {x:Int} (hx:x∈eN hs me R W):¬eI (i5 hs) x:=by
 obtain⟨k,hk,rfl⟩:=List.mem_map.1 hx
 have h0:0≤da hs me R W k:=by
  unfold da
  split
  ·exact Int.le_refl 0
  ·have:=tc (hb me hm).1 (hb me hm).2
   exact(vD _ _ _ _ (by rw [Int.one_mul];omega) (by rw [Int.one_mul];omega) fun p hp=>by
    obtain⟨j,j1,_,j3,_⟩:=fb hs 0 hp
    rw [j3];exact hb _ (bE 0 hs j j1)).1
 have hs':(da hs me R W k).toNat&&&(i5 hs).toNat=(da hs me R W k).toNat:=by
  rw [Nat.and_comm]
  refine vA.2 fun n hn=> ?_
  unfold i5
  rw [rD]
  right
  unfold da at hn
  split at hn
  ·simp at hn
  ·rcases(pW _ _ _ _ _).1 hn with h|⟨p,hp,_,h3⟩
   ·rw [Int.one_mul,mD,Nat.testBit_two_pow] at h
    exact⟨me,hm,of_decide_eq_true h⟩
   ·obtain⟨j,j1,_,j3,_⟩:=fb hs 0 hp
    exact⟨p.2,by rw [j3];exact bE 0 hs j j1,h3⟩
 unfold eI
 rw [hs',Nat.xor_self]
 intro h
 omega
theorem nB {hs:List Int} {h:Int}:∀(l:List RP) (es:Ps),(∀p∈l,p.1≠h)→aa (l.foldl (fB hs) es) h=aa es h
 |[],_,_=>rfl
 |p::l,es,hp=>by
  show aa (l.foldl (fB hs) (fB hs es p)) h=_
  rw [nB l _ fun q hq=>hp q (List.mem_cons_of_mem _ hq)]
  unfold fB
  split
  ·rw [ib,if_neg (hp p List.mem_cons_self)]
  ·rfl
theorem qG {hs:List Int} (hb:∀x∈hs,0≤x∧x<12) {R:Int→List e7} {W:Int→List (List e7)} {h:Int}:∀(L:List Int) (es:Ps),L.Nodup→(∀a∈L,a∈hs)→aa es h=none→h∈L→
  aa ((L.map fun a=>(a,eN hs a (R a) (W a),())).foldl (fB hs) es) h=some (eN hs h (R h) (W h))
 |[],_,_,_,_,hh=>by cases hh
 | a::L,es,hn,hL,he,hh=>by
  rw [List.nodup_cons] at hn
  show aa ((L.map fun a=>(a,eN hs a (R a) (W a),())).foldl (fB hs) (fB hs es (a,eN hs a (R a) (W a),()))) h=_
  by_cases e:a=h
  ·subst e
   rw [nB _ _ fun p hp=>by
    obtain⟨b,hb2,rfl⟩:=List.mem_map.1 hp
    intro e
    have e:b=a:=e
    exact hn.1 (e▸hb2)]
   unfold fB
   rw [if_pos ⟨he,fun⟨x,h1,h2⟩=>Gl hb (hL a List.mem_cons_self) h1 h2,by show((eN hs a (R a) (W a)).length:Int)=_;unfold eN;rw [List.length_map,List.length_range],hL a List.mem_cons_self⟩,ib,if_pos rfl]
  ·refine qG hb L _ hn.2 (fun b hb2=>hL b (List.mem_cons_of_mem _ hb2)) ?_ ((List.mem_cons.1 hh).resolve_left fun g=>e g.symm)
   unfold fB
   split
   ·rw [ib,if_neg e];exact he
   ·exact he
theorem Cu {hs hon:List Int} {R:Int→List e7} {W:Int→List (List e7)} (hb:∀x∈hs,0≤x∧x<12) (hn:hon.Nodup) (hsub:∀a∈hon,a∈hs) {lp:List RP} (hl:∀p∈lp,p.1∉hon) {h:Int} (hh:h∈hon):
  aa (fU hs (lp++hon.map fun a=>(a,eN hs a (R a) (W a),()))) h=some (eN hs h (R h) (W h)):=by
 unfold fU
 rw [List.foldl_append]
 exact qG hb hon _ hn hsub (by rw [nB lp [] fun p hp e=>hl p hp (e▸hh)];rfl) hh
end Go.Proofs.YtailffhfhekkpaaDoor.S62c

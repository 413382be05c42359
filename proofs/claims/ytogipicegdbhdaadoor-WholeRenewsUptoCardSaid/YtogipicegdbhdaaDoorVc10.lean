/- Texts of this claim. -/
import Derived.Test.YtogipicegdbhdaaDoorVc9
import Derived.KernelRfl
set_option linter.unusedVariables false
set_option linter.unusedSimpArgs false
namespace Go.Proofs.YtogipicegdbhdaaDoor.Vc
open Go Go.RowKit
section
mutual
def V.noY:V→Bool
 |.yld _=>false
 |.agg cs=>V.noYL cs
 |.tup cs=>V.noYL cs
 |.fn _ cs=>V.noYL cs
 |.rb x=>V.noY x
 |_=>true
def V.noYL:List V→Bool
 |[]=>true
 |x::l=>x.noY&&V.noYL l
end
def Blk.noY:Blk→Bool
 |.cells cs=>V.noYL cs
 |_=>true
def Dy:List Blk→Bool
 |[]=>true
 |b::l=>b.noY&&Dy l

def uO (ks:List PK) (spec:List V→Option (Prop×V×List Blk)):bI:=fun args H R=>
 forceL (yL none args) fun args=>asArgs [] ks args fun ds=>match spec ds with
  |some (p,v,bs)=>p∧R (sO H.length v) (H++kK H.length bs)
  |none=>False

def Kc (E:Env) (fn:Func) (ms:List Mode) (ds:List V) (v:V) (bs:List Blk):Prop:=
 body E fn ds [] fun v' H'=>M4 ms v' H' fun v' H'=>(v'.noY&&Dy H')=true∧v'=v∧H'=bs

section
variable {G:List (Nat×V)} {base:Nat} {w0 v0:W0} {c:Cx} {H:List Blk} {w:World}

def Cx.joinM (c cE:Cx) (n:Nat):Cx:=⟨fun g=>c.M g∨cE.M g,fun g=>c.N g∨cE.N g,fun i=>if i<n then c.ρ i else cE.ρ (i-n),fun i=>if i<n then c.β i else cE.β (i-n),c.x,c.gi⟩
theorem rX {c cE:Cx} {n i:Nat}:(c.joinM cE n).β (n+i)=cE.β i:=by simp only [Cx.joinM];rw [if_neg (by omega),Nat.add_sub_cancel_left]

theorem cI.joinM {cE:Cx} {w':World} {i z off n:Nat} {a:Option Addr} {cap:Nat} (h:cI cE w' i z off a cap):cI (c.joinM cE n) w' (n+i) z off a cap:=by
 obtain⟨g,e,cur,h1,h2⟩:=h
 exact⟨g,e,cur,by simp only [Cx.joinM];rw [if_neg (by omega),Nat.add_sub_cancel_left];exact h1,by rw [rX];exact h2⟩

theorem iM {cE:Cx} {n:Nat} (fr:Bool):∀g,cE.im fr g→(c.joinM cE n).im fr g:=by
 cases fr
 ·exact fun g hg=> .inr hg
 ·exact fun g hg=> .inr hg

section
variable {cE:Cx} {L:List Blk} {w':World}
mutual
theorem VRel.joinM:∀{x:V} {v:Value},VRel cE L w' x v→x.noY=true→VRel (c.joinM cE H.length) (H++kK H.length L) w' (sO H.length x) v
 |_,_,.undef v,_=> .undef v
 |_,_,.int k n h1 h2,_=> .int k n h1 h2
 |_,_,.u8 x,_=> .u8 x
 |_,_,.b p x h,_=> .b p x h
 |_,_,.bt x,_=> .bt x
 |_,_,.nope,_=> .nope
 |_,_,.str s h,_=> .str s h
 |_,_,.nils,_=> .nils
 |_,_,.sl fr t xs v h,_=> .sl fr t xs v (aJ.ext (M:=cE.im fr) (iM fr) (fun _ _=>rfl) _ _ _ h)
 |_,_,.own t i n a cap h1 hn hc ho,_=> .own t (H.length+i) n a cap ((b8 H L i).trans h1) hn hc (ho.imp (fun h=>h) cI.joinM)
 |_,_,.slc t i off n m a cap h1 h2 hn hc ho,_=> .slc t (H.length+i) off n m a cap ((b8 H L i).trans h1) h2 hn hc (ho.imp (fun h=>h) cI.joinM)
 |_,_,.rp fr t x o g p es hM hd hc,_=> .rp fr t x o g p es (iM fr g hM) (aJ.ext (M:=cE.im fr) (iM fr) (fun _ _=>rfl) _ _ _ hd) hc
 |_,_,.ptr i z j o g m h1 hr hi ho,_=>by rw [←rX (c:=c) (cE:=cE) (n:=H.length)];exact .ptr (H.length+i) z j o g m ((b8 H L i).trans h1) (by simp only [Cx.joinM];rw [if_neg (by omega),Nat.add_sub_cancel_left];exact hr) hi ho
 |_,_,.agg cs vs h,hf=> .agg _ vs (VRels.joinM h hf)
 |_,_,.tup cs vs h,hf=> .tup _ vs (VRels.joinM h hf)
 |_,_,.fn f cs vs h,hf=> .fn f _ vs (VRels.joinM h hf)
 |_,_,.nilfn,_=> .nilfn
 |_,_,.yld k h,hf=>by simp [V.noY] at hf
 |_,_,.dat fr t x es h,_=> .dat fr t x es (aJ.ext (M:=cE.im fr) (iM fr) (fun _ _=>rfl) _ _ _ h)
 |_,_,.rb x v g p hM hc h,hf=> .rb _ v g p (.inr hM) hc (VRel.joinM h hf)
 |_,_,.mp t i g h1 hr,_=> .mp t (H.length+i) g ((b8 H L i).trans h1) (by simp only [Cx.joinM];rw [if_neg (by omega),Nat.add_sub_cancel_left];exact hr)
theorem VRels.joinM:∀{xs:List V} {vs:List Value},VRels cE L w' xs vs→V.noYL xs=true→VRels (c.joinM cE H.length) (H++kK H.length L) w' (shL H.length xs) vs
 |_,_,.nil,_=> .nil
 |_,_,.cons x v xs vs h hx,hf=>by
  simp only [V.noYL,Bool.and_eq_true] at hf
  exact .cons _ v _ vs (VRel.joinM h hf.1) (VRels.joinM hx hf.2)
end
end

theorem A4:∀(L:List Blk) (i:Nat),Dy L=true→(aD L i).noY=true
 |[],i,_=>by cases i<;>rfl
 |b::L,0,h=>by simp only [Dy,Bool.and_eq_true] at h;exact h.1
 |b::L,i+1,h=>by simp only [Dy,Bool.and_eq_true] at h;exact A4 L i h.2
theorem A3:∀(l:List V) (i:Nat),V.noYL l=true→(aL l i).noY=true
 |[],i,_=>by cases i<;>rfl
 |b::L,0,h=>by simp only [V.noYL,Bool.and_eq_true] at h;exact h.1
 |b::L,i+1,h=>by simp only [V.noYL,Bool.and_eq_true] at h;exact A3 L i h.2

theorem nc (hst:St G base w0 c H w) {cE:Cx} {L:List Blk} {w':World} (hv:v0.w=w) (he:St G w.heap.size v0 cE L w'):Ext c H w (c.joinM cE H.length) (H++kK H.length L) w' where
 M g hg:= .inl hg
 N g hg:= .inl hg
 mem g hg:=by have:=he.below;rw [hv] at this;exact this.block g (hst.imm g (hg.elim id fun hn=>(hst.sub g hn).1))
 shp id s hs:=by
  have hlt:=cV hs
  refine⟨?_,by simp [Cx.joinM,hlt]⟩
  unfold aE at*
  rw [cH,if_pos hlt];exact hs
 siz id s g cur e hs hr hg:=⟨cur,by have:=he.below;rw [hv] at this;exact(this.block g (hst.own id g hr).2.1).trans hg,rfl⟩
 x:=rfl
 gi:=rfl
 bas id s hs:=by
  have hlt:=cV hs
  simp [Cx.joinM,hlt]

theorem St.joinM (hst:St G base w0 c H w) {cE:Cx} {L:List Blk} {w':World} (hv:v0.w=w) (hX:∀g,g<w.heap.size→¬c.M g→v0.X g) (hgh:v0.gh= []) (he:St G w.heap.size v0 cE L w') (hf:Dy L=true):St G base w0 (c.joinM cE H.length) (H++kK H.length L) w':=by
 have hbe:=he.below
 rw [hv] at hbe
 have hM:∀g,cE.M g→c.M g∨w.heap.size≤g:=fun g hg=>by
  have hd:=he.xk.dis g hg
  rcases Nat.lt_or_ge g w.heap.size with h|h
  ·exact .inl (Classical.byContradiction fun hn=>hd (hX g h hn))
  ·exact .inr h
 exact
 {below:=hst.below.trans (hbe.mono hst.size)
  xk:=hst.xk.step rfl (fun h=>h) (fun g hg=>hg.elim .inl fun hN=>(hM g hN).elim .inl fun h=> .inr (.inr h)) (fun i g hi=>by
   simp only [Cx.joinM] at hi
   split at hi
   ·exact .inl ⟨i,hi⟩
   ·exact .inr (he.own _ g hi).1) (fun g o ho=> .inl ((hbe.block g (Array.getElem?_eq_some_iff.1 ho).1).trans ho))
  size:=Nat.le_trans hst.size he.size
  blk:=fun id=>by
   rw [cH]
   split
   ·rename_i hlt
    exact ig.keep (nc hst hv he) (fun _=>by simp [Cx.joinM,hlt]) (fun _=>by simp [Cx.joinM,hlt]) (fun g hg=>hbe.block g (hst.own id g hg).2.1) (hst.blk id)
   ·rename_i hge
    have hid:id=H.length+(id-H.length):=by omega
    have hbk:=he.blk (id-H.length)
    have hfr:=A4 L (id-H.length) hf
    have hrho:(c.joinM cE H.length).ρ id=cE.ρ (id-H.length):=by simp [Cx.joinM,hge]
    have hbet:(c.joinM cE H.length).β id=cE.β (id-H.length):=by simp [Cx.joinM,hge]
    rw [mU]
    generalize aD L (id-H.length)=b at hbk hfr
    cases b with
    |dead=>trivial
    | row fr t xs=>
     rcases hbk with⟨h1,h2⟩|⟨g,e,cur,h1,h2,h3,h4⟩
     ·exact .inl ⟨hrho.trans h1,h2⟩
     ·refine .inr ⟨g,e,cur,hrho.trans h1,h2,by rw [hbet];exact h3,fun i x hi=> ?_⟩
      rw [hbet]
      obtain⟨es,e1,e2⟩:=h4 i x hi
      exact⟨es,aJ.ext (M:=cE.im fr) (iM fr) (fun _ _=>rfl) _ _ _ e1,e2⟩
    | cells cs=>
     rcases hbk with⟨g,e,cur,h1,h2,h3,h4⟩|⟨h0,_⟩
     ·refine .inl ⟨g,e,cur,hrho.trans h1,h2,by rw [eJ,hbet];exact h3,fun j hj=> ?_⟩
      rw [hbet]
      rw [eJ] at hj
      obtain⟨v,h5,h6,h7⟩:=h4 j hj
      rw [rA]
      exact⟨v,h5,h6,h7.joinM (A3 cs j hfr)⟩
     ·rw [he.xk.gi hgh] at h0;cases h0
    |imap fr t es=>
     obtain⟨g,ents,clock,h1,h2,h3,h4,h5,h6⟩:=hbk
     refine⟨g,ents,clock,hrho.trans h1,h2,h3,h4,h5,fun i n x hi=> ?_⟩
     obtain⟨v,b,h7,h8,h9⟩:=h6 i n x hi
     exact⟨v,b,h7,h8,aJ.ext (M:=cE.im fr) (iM fr) (fun _ _=>rfl) _ _ _ h9⟩
    | mit mid n s l=>
     cases mid with
     |none=>trivial
     |some mid=>
      obtain⟨g,gm,z,h1,h2,h3,h4,h5,h6⟩:=hbk
      exact⟨g,gm,z,hrho.trans h1,h2,by simp only [Cx.joinM];rw [if_neg (by omega),Nat.add_sub_cancel_left];exact h3,(b8 H L mid).trans h4,h5,hbet.trans h6⟩
  inj:=fun i j g hi hj=>by
   simp only [Cx.joinM] at hi hj
   split at hi<;>split at hj
   ·exact hst.inj i j g hi hj
   ·have h1:=(hst.own i g hi).2.1
    have h2:=(he.own _ g hj).1
    omega
   ·have h1:=(hst.own j g hj).2.1
    have h2:=(he.own _ g hi).1
    omega
   ·have:=he.inj _ _ g hi hj;omega
  own:=fun i g hi=>by
   simp only [Cx.joinM] at hi
   split at hi
   ·obtain⟨h1,h2,h3,h4⟩:=hst.own i g hi
    refine⟨h1,Nat.lt_of_lt_of_le h2 he.size,fun hm=> ?_,by rw [List.length_append];omega⟩
    rcases hm with hm|hm
    ·exact h3 hm
    ·rcases hM g hm with hm|hm
     ·exact h3 hm
     ·omega
   ·obtain⟨h1,h2,h3,h4⟩:=he.own _ g hi
    have:=hst.size
    refine⟨by omega,h2,fun hm=> ?_,by rw [List.length_append,iz];omega⟩
    rcases hm with hm|hm
    ·have:=hst.imm g hm;omega
    ·exact h3 hm
  imm:=fun g hg=>by
   rcases hg with hg|hg
   ·exact Nat.lt_of_lt_of_le (hst.imm g hg) he.size
   ·exact he.imm g hg
  sub:=fun g hg=>by
   rcases hg with hg|hg
   ·exact⟨.inl (hst.sub g hg).1,(hst.sub g hg).2⟩
   ·have:=hst.size
    exact⟨.inr (he.sub g hg).1,Nat.le_trans this (he.sub g hg).2⟩
  glob:=fun g x hx=>(hst.glob g x hx).ext (nc hst hv he)}
end

theorem Ef {E:Env} {P:Program} (hk:Known P E) (hyl:E.yl=none) {f:FuncId} {fn:Func} (hf:P.funcs[f]? =some fn) (hent:∀args w,(callFunc f args).run P w= .ok (.enter f args) w)
  {ks:List PK} {spec:List V→Option (Prop×V×List Blk)} (ms:List Mode) (h:∀ds p v bs,spec ds=some (p,v,bs)→p→Kc E fn ms ds v bs):mz P E.glob f (uO ks spec):=by
 refine⟨hent,fun base w0 c H w args vs hst hv R hc=> ?_⟩
 have hc:=(aA _ _).1 hc
 let w1:W0:=⟨w,fun _=>none,fun _=>none,fun g=>g<w.heap.size∧¬c.M g,fun _=>False,fun _ _ _=>True, [],c.x.l⟩
 have hcalm:St E.glob w.heap.size w1 (Cx.of c.M ⟨[],none,c.x.l⟩) [] w:=
  hst.calm hk.noref (fun g hg=>hg) (fun _ _=>rfl) (Below.refl _ _)
   {keep:=fun g o h=>by cases h
    siz:=fun g n h=>by cases h
    cnt:=trivial
    gh:=rfl
    l:=rfl
    dis:=fun g hg hX=>hX.2 hg
    xb:=fun g hX=>⟨hX.1,fun i hi=>by cases hi⟩
    mks:=fun _ h=>h.elim
    gi:=fun _=>rfl} (Nat.le_refl _) hst.imm
 have hargs:VRels (Cx.of c.M ⟨[],none,c.x.l⟩) [] w (yL none args) vs:=
  VRels.y (c:=c) (c':=Cx.of c.M ⟨[],none,c.x.l⟩) (fun g hg=>hg) (fun g hg=>(hst.sub g hg).1) (fun _ _=>rfl) rfl rfl hv
 obtain⟨ds,hkk,hd⟩:=ic (U:=c.M) hcalm (fun g hg=>hg) (fun i g hi=>by cases hi) ks _ vs _ hc hargs
 cases hs:spec ds with
 |none=>rw [hs] at hkk;exact hkk.elim
 |some q=>
  obtain⟨p,v,bs⟩:=q
  rw [hs] at hkk
  obtain⟨hp,hR⟩:=hkk
  refine(u5 hk hyl (fun _ _ _=>trivial) rfl (fun _ h=>h) hf hcalm (hd _) (h ds p v bs hs hp)).mono ?_
  rintro e w' ⟨x,v',H',c',rfl,hq,hx,hst'⟩
  obtain⟨c2,v2,H2,⟨hfr,rfl,rfl⟩,hst2,hx2⟩:=tf hk.glob hk.noref hst' hx hq
  simp only [Bool.and_eq_true] at hfr
  exact⟨_,v',_,_,rfl,hR,hx2.joinM hfr.1,hst.joinM (v0:=w1) rfl (fun g h1 h2=>⟨h1,h2⟩) rfl hst2 hfr.2,nc (v0:=w1) hst rfl hst2⟩

theorem Lh.imm (ks:List PK) (spec:List V→Option (Prop×V×List Blk)):Lh (uO ks spec):=fun args H R h=>by
 have h:=(aA _ _).1 h
 have hp:aC (fun K:List V→Prop=>asArgs [] ks (yL none args) K):= .asArgs (f:=fun ds K=>K ds) fun ds=> .ret ds
 obtain⟨ds,h1,h2⟩:=hp _ h
 generalize hs:spec ds=r at h1
 rcases r with _|⟨p,v,bs⟩
 ·exact h1.elim
 ·exact⟨_,_,h1.2,fun R' h'=>(aA _ _).2 (h2 _ (by rw [hs];exact⟨h1.1,h'⟩))⟩

theorem Det.imm (ks:List PK) (spec:List V→Option (Prop×V×List Blk)):Det (uO ks spec):=⟨.imm ks spec,fun args H H2 v0 hle hv h=>by
 have h:=(aA _ _).1 h
 have hp:aC (fun K:List V→Prop=>asArgs [] ks (yL none args) K):= .asArgs (f:=fun ds K=>K ds) fun ds=> .ret ds
 obtain⟨ds,h1,h2⟩:=hp _ h
 generalize hs:spec ds=r at h1
 rcases r with _|⟨p,v,bs⟩
 ·exact h1.elim
 ·exact(aA _ _).2 (h2 _ (by rw [hs];exact⟨h1.1,Ab hv h1.2⟩)),fun args H F R R2 hF hk h=>by
 have h:=(aA _ _).1 h
 have hp:aC (fun K:List V→Prop=>asArgs [] ks (yL none args) K):= .asArgs (f:=fun ds K=>K ds) fun ds=> .ret ds
 obtain⟨ds,h1,h2⟩:=hp _ h
 generalize hs:spec ds=r at h1
 rcases r with _|⟨p,v,bs⟩
 ·exact h1.elim
 ·exact(aA _ _).2 (h2 _ (by rw [hs];exact⟨h1.1,by rw [ab,da hF];exact hk _ _ h1.2⟩))⟩

theorem Known.addI {z:List Nat} {P:Program} {tys:List (Nat×Ty)} {G:List (Nat×V)} {l:List (Nat×bI)} {q:List (Nat×gU)} (h:Known P (En l tys G q z)) {f:Nat} {fn:Func} (hf:P.funcs[f]? =some fn) (hent:∀args w,(callFunc f args).run P w= .ok (.enter f args) w)
  {ks:List PK} {spec:List V→Option (Prop×V×List Blk)} (ms:List Mode) (hb:∀ds p v bs,spec ds=some (p,v,bs)→p→Kc (En l tys G q z) fn ms ds v bs):Known P (En ((f,uO ks spec)::l) tys G q z) where
 glob:=h.glob
 noref:=h.noref
 env:= .cons (Ef h rfl hf hent ms hb) h.env
 det:=h.det.imp id fun hdet=>rR hdet (.imm _ _)
 mixed:=h.mixed
end
structure Kind where
 con:List PK→(List V→Option (Prop×V×List Blk))→bI
 body:Env→Func→List Mode→List V→V→List Blk→Prop
 det:∀ks spec,Det (con ks spec)
 pt:∀ks args H (spec:List V→Option (Prop×V×List Blk)) R,con ks spec args H R→∃ds p v bs,spec ds=some (p,v,bs)∧p∧∀spec':List V→Option (Prop×V×List Blk),(∃p',spec' ds=some (p',v,bs)∧p')→con ks spec' args H R
 holds:∀{E:Env} {P:Program},Known P E→E.yl=none→∀{f:FuncId} {fn:Func},P.funcs[f]? =some fn→(∀args w,(callFunc f args).run P w= .ok (.enter f args) w)→
  ∀{ks:List PK} {spec:List V→Option (Prop×V×List Blk)} (ms:List Mode),(∀ds p v bs,spec ds=some (p,v,bs)→p→body E fn ms ds v bs)→mz P E.glob f (con ks spec)

theorem Known.cons {z:List Nat} {P:Program} {tys:List (Nat×Ty)} {G:List (Nat×V)} {l:List (Nat×bI)} {q:List (Nat×gU)} (h:Known P (En l tys G q z)) {f:Nat} {c:bI} (hc:mz P G f c) (hd:Det c):Known P (En ((f,c)::l) tys G q z) where
 glob:=h.glob
 noref:=h.noref
 env:= .cons hc h.env
 det:=h.det.imp id fun hdet=>rR hdet hd
 mixed:=h.mixed

theorem Known.frz {z:List Nat} {P:Program} {tys:List (Nat×Ty)} {G:List (Nat×V)} {l:List (Nat×bI)} {q:List (Nat×gU)} (h:Known P (En l tys G q z)) (z':List Nat) (hz:br z 6000000=false:=by rfl) (he:lQ z=false:=by rfl):Known P (En l tys G q z'):=⟨h.glob,h.noref,⟨h.env.con,h.env.seq,h.env.ty,h.env.eq⟩,.inr fun k c hc=>(h.det.resolve_left fun he=>by rw [show br z 6000000=true from he] at hz;cases hz) k c (by show lk (bif lQ z then x9 z l else l) k=some c;rw [he];exact Jr hc),h.mixed⟩
theorem Known.frz0 {z:List Nat} {P:Program} {tys:List (Nat×Ty)} {G:List (Nat×V)} {l:List (Nat×bI)} {q:List (Nat×gU)} (h:Known P (En l tys G q z)) (hz:br z 6000000=false:=by rfl) (he:lQ z=false:=by rfl):Known P (En l tys G q []):=h.frz [] hz he
open Go
def O3:Code→Code| .seq x _=>x|c=>c
noncomputable def qs (E:Env) (d:Code) (Q:Ex→List V→List Blk→Prop):Ex→List V→List Blk→Prop:=fun e σ H=>match e with
 |.normal=>jN E d Q σ H
 |.exit i=>Q (.exit i) σ H
 |.ret=>Q .ret σ H
section
section
variable {c c':Cx} {H H':List Blk} {w w':World}
theorem VRel.ptr_inv {id z i o:Nat} {v:Value} (h:VRel c H w (.ptr id z i o) v):∃g m,aE H id=some (m,z)∧c.ρ id=some g∧i<m∧o<z∧v= .pointer (some ⟨g,c.β id+(i*z+o),none⟩):=by
 cases h with|ptr _ _ _ _ g m h1 h2 h3 h4=>exact⟨g,m,h1,h2,h3,h4,rfl⟩
theorem VRel.tup0_inv {v:Value} (h:VRel c H w (.tup []) v):v= .tuple #[]:=by
 cases h with|tup _ vs h=>cases h;rfl
theorem VRels.cons_inv {x:V} {xs:List V} {vs:List Value} (h:VRels c H w (x::xs) vs):∃v us,vs=v::us∧VRel c H w x v∧VRels c H w xs us:=by
 cases h with|cons _ v _ us h1 h2=>exact⟨v,us,rfl,h1,h2⟩
end

section
variable {E:Env} {P:Program} {base:Nat} {w0:W0}
theorem xe (hk:Known P E) (hyl:E.yl=none) (hrf:E.rf=false) (hJ:∀k X w,w0.J k X w) (hmk0:∀g,¬w0.mks g) {f:FuncId} {fn:Func} (hf:P.funcs[f]? =some fn) {c:Cx} {H:List Blk} {w:World} {args:List V} {vs:List Value} {R:V→List Blk→Prop}
  (hst:St E.glob base w0 c H w) (hv:VRels c H w args vs) (h:body E fn args H R):
  Calls P f vs.toArray w fun e w'=>∃x v H' c',e= .returned v∧R x H'∧VRel c' H' w' x v∧St E.glob base w0 c' H' w':=by
 unfold body at h
 split at h
 ·rename_i code hb
  rw [dP] at h
  have hs:fD E (Sf base w0) (args++List.replicate (fn.ntmps-args.length) .undef) H {tmps:=vs.toArray++Array.replicate (fn.ntmps-vs.toArray.size) undef,defers:= []} w:=
   ⟨c,base,w0,⟨rfl,rfl,rfl,rfl,rfl,rfl,fun _ _ h=>h,fun _ h=>h,fun g h=>absurd h (hmk0 g)⟩,hst,by
    simp only [Array.toList_append,Array.toList_replicate,List.size_toArray]
    rw [hv.length]
    exact hv.append (VRels.undefs undef _),my.nil⟩
  refine(callsIn_wide (n:=0)).1 (callsIn_of_wp_marks hf hb trivial (cT ?_ (cS code hk (ro:=none) (fun q hq=>by rw [hyl] at hq;cases hq) (fun hr=>by rw [hrf] at hr;cases hr) _ _ H _ w h hs)))
  have fin:∀(a:Act) (w':World),(∃σ H,fk E fn σ H (fun v=>R v H)∧fD E (Sf base w0) σ H a w')→
    LeavesInM Fence.wide 0 P fn a.tmps (fun e w'=>∃x v H' c',e= .returned v∧R x H'∧VRel c' H' w' x v∧St E.glob base w0 c' H' w') a.defers .returning w':=by
   rintro a w' ⟨σ,H,hq,c',b,v,hS,hst',hσ',gs,g1,g2,g3⟩
   obtain rfl:=hS.1
   rw [g2]
   exact qj hk.env hJ hmk0 hq gs v w' hS g1 g3 hst' hσ'
  intro e a w' hp
  cases e with
  |normal=>exact fin a w' hp
  |ret=>exact fin a w' hp
  |exit i=>obtain⟨_,_,hq,_⟩:=hp;exact hq.elim
  |goto l=>exact hp.elim
  |panic ch=>exact hp.elim
  |outgrown=>exact hp.elim
 ·exact h.elim

theorem Known.addT {z z':List Nat} {P:Program} {tys:List (Nat×Ty)} {G:List (Nat×V)} {l l':List (Nat×bI)} {q:List (Nat×gU)} (h:Known P (En l tys G q z)) (h2:Known P (En l' tys G q z')) {f:Nat} {fn:Func} (hf:P.funcs[f]? =some fn) (hent:∀args w,(callFunc f args).run P w= .ok (.enter f args) w)
  {ks:List PK} {spec:List V→Option (Prop×V×List Blk)} (ms:List Mode) (hb:∀ds p v bs,spec ds=some (p,v,bs)→p→bL (En l' tys G q z') fn ms ds v bs):Known P (En ((f,aS ks spec)::l) tys G q z):=
 h.cons (qx h2 rfl hf hent ms hb) (.pure _ _)
end
end
section
theorem qq:∀(l:List Nat) (n:Nat),br l n=true→∃k,eh l n=some k
 |[],n,h=>by simp [br] at h
 | x::l,n,h=>by
  unfold br at h
  unfold eh
  cases hb:Nat.beq x n with
  |true=>exact⟨0,rfl⟩
  |false=>
   rw [hb,Bool.false_or] at h
   obtain⟨k,hk⟩:=qq l n h
   exact⟨k+1,by rw [hk];rfl⟩

mutual
def V.seen (sel:List Nat):V→Bool
 |.own _ _=>false
 |.slc _ _ _ _=>false
 |.yld _=>false
 |.ptr i _ _ _=>br sel i
 |.mp _ i=>br sel i
 |.rb x=>V.seen sel x
 |.agg cs=>V.seenL sel cs
 |.tup cs=>V.seenL sel cs
 |.fn _ cs=>V.seenL sel cs
 |_=>true
def V.seenL (sel:List Nat):List V→Bool
 |[]=>true
 |x::l=>x.seen sel&&V.seenL sel l
end
theorem V.seenL_gets {sel:List Nat}:∀{cs:List V},V.seenL sel cs=true→∀j,V.seen sel (aL cs j)=true
 |[],_,j=>by cases j<;>rfl
 |x::cs,h,0=>by simp only [V.seenL,Bool.and_eq_true] at h;exact h.1
 |x::cs,h,j+1=>by simp only [V.seenL,Bool.and_eq_true] at h;exact V.seenL_gets h.2 j

section
variable {c c2:Cx} {H H2:List Blk} {w:World} {sel:List Nat}
mutual
theorem VRel.unren (hM:∀g,c.M g→c2.M g) (hN:∀g,c.N g→c2.N g) (hs:∀k i,sel[k]? =some i→c2.ρ i=c.ρ k∧aE H2 i=aE H k∧(aE H k≠some (0,0)→c2.β i=c.β k)):
  ∀(x:V) {v:Value},x.seen sel=true→VRel c H w (qJ sel x) v→VRel c2 H2 w x v
 |.undef,v,_,_=> .undef v
 |.nope,_,_,h=>by cases h;exact .nope
 |.int k n,_,_,h=>by cases h with|int _ _ h1 h2=>exact .int k n h1 h2
 |.u8 x,_,_,h=>by cases h;exact .u8 x
 |.b p,_,_,h=>by cases h with|b _ x h=>exact .b p x h
 |.bt x,_,_,h=>by cases h;exact .bt x
 |.str s,_,_,h=>by cases h with|str _ h=>exact .str s h
 |.nils,_,_,h=>by cases h;exact .nils
 |.sl fr t xs,_,_,h=>by cases h with|sl _ _ _ _ h=>exact .sl fr t xs _ (aJ.ext (M:=c.im fr) (by cases fr;exact hM;exact hN) (fun _ _=>rfl) _ _ _ h)
 |.own t i,_,hn,_=>by simp [V.seen] at hn
 |.slc t i o l,_,hn,_=>by simp [V.seen] at hn
 |.rp fr t x o,_,_,h=>by
  cases h with|rp _ _ _ _ g p es q1 q2 q3=>exact .rp fr t x o g p es (by cases fr;exact hM g q1;exact hN g q1) (aJ.ext (M:=c.im fr) (by cases fr;exact hM;exact hN) (fun _ _=>rfl) _ _ _ q2) q3
 |.ptr i z j o,_,hn,h=>by
  obtain⟨k,hk⟩:=qq sel i hn
  unfold qJ at h
  rw [hk] at h
  obtain⟨h1,h2,h3⟩:=hs k i (cO _ _ _ hk)
  cases h with|ptr _ _ _ _ g m q1 q2 q3 q4=>
  rw [←h3 (by rw [q1];intro e;cases e;omega)]
  exact .ptr i z j o g m (h2.trans q1) (h1.trans q2) q3 q4
 |.agg cs,_,hn,h=>by cases h with|agg _ vs h=>exact .agg cs vs (VRels.unren hM hN hs cs hn h)
 |.tup cs,_,hn,h=>by cases h with|tup _ vs h=>exact .tup cs vs (VRels.unren hM hN hs cs hn h)
 |.fn f cs,_,hn,h=>by cases h with|fn _ _ vs h=>exact .fn f cs vs (VRels.unren hM hN hs cs hn h)
 |.nilfn,_,_,h=>by cases h;exact .nilfn
 |.yld k,_,hn,_=>by simp [V.seen] at hn
 |.dat fr t x,_,_,h=>by cases h with|dat _ _ _ es h=>exact .dat fr t x es (aJ.ext (M:=c.im fr) (by cases fr;exact hM;exact hN) (fun _ _=>rfl) _ _ _ h)
 |.rb x,_,hn,h=>by
  cases h with|rb _ v g p q1 q2 q3=>exact .rb x v g p (hM g q1) q2 (VRel.unren hM hN hs x hn q3)
 |.mp t i,_,hn,h=>by
  obtain⟨k,hk⟩:=qq sel i hn
  unfold qJ at h
  rw [hk] at h
  obtain⟨h1,h2,h3⟩:=hs k i (cO _ _ _ hk)
  cases h with|mp _ _ g q1 q2=>exact .mp t i g (h2.trans q1) (h1.trans q2)
theorem VRels.unren (hM:∀g,c.M g→c2.M g) (hN:∀g,c.N g→c2.N g) (hs:∀k i,sel[k]? =some i→c2.ρ i=c.ρ k∧aE H2 i=aE H k∧(aE H k≠some (0,0)→c2.β i=c.β k)):
  ∀(xs:List V) {vs:List Value},V.seenL sel xs=true→VRels c H w (renL sel xs) vs→VRels c2 H2 w xs vs
 |[],_,_,h=>by cases h;exact .nil
 |x::xs,_,hn,h=>by
  simp only [V.seenL,Bool.and_eq_true] at hn
  cases h with|cons _ v _ vs h1 h2=>exact .cons x v xs vs (VRel.unren hM hN hs x hn.1 h1) (VRels.unren hM hN hs xs hn.2 h2)
end
end

def mC (sel:List Nat):Blk→Bool
 |.cells cs=>Nat.blt 0 cs.length&&V.seenL sel cs
 |.imap _ _ _=>true
 |_=>false
def dD (sel:List Nat) (H:List Blk):List Nat→Bool
 |[]=>true
 |i::l=>mC sel (aD H i)&&dD sel H l
def Ts (k:Nat):Blk→V
 |.imap _ t _=> .mp t k
 |_=> .ptr k 1 0 0
def uS:Nat→List Blk→List V
 |_, []=> []
 |k,b::l=>Ts k b::uS (k+1) l
def jx (H:List Blk):List Blk:=H++ [.cells (.tup []::uS 0 H)]
def ba (sel:List Nat) (H:List Blk):List Blk:=jx (bu sel H sel)
def N7 (g:Option Nat):Blk→Value
 |.imap _ _ _=> .map g
 |_=> .pointer (g.map fun g=>⟨g,0,none⟩)

theorem dZ {sel:List Nat} {H:List Blk}:∀{l:List Nat} {i:Nat},dD sel H l=true→i∈l→mC sel (aD H i)=true
 |[],_,_,h=>by cases h
 |j::l,i,h,hi=>by
  simp only [dD,Bool.and_eq_true] at h
  rcases List.mem_cons.1 hi with rfl|hi
  ·exact h.1
  ·exact dZ h.2 hi
theorem rB:∀(l:List Blk) (n k:Nat),aL (uS n l) k=match l[k]? with|some b=>Ts (n+k) b|none=> .undef
 |[],n,k=>by cases k<;>rfl
 |b::l,n,0=>rfl
 |b::l,n,k+1=>by
  show aL (uS (n+1) l) k=_
  rw [rB l (n+1) k,show n+1+k=n+(k+1) by omega];rfl
theorem tc (sel:List Nat) (H:List Blk):∀(l:List Nat) (k:Nat),(bu sel H l)[k]? =(l[k]?).map fun i=>yi sel (aD H i)
 |[],k=>by simp [bu]
 |i::l,0=>rfl
 |i::l,k+1=>by
  show(bu sel H l)[k]? =_
  rw [tc sel H l k];simp
theorem uT (sel:List Nat) (k:Nat) (b:Blk):Ts k (yi sel b)=Ts k b:=by
 cases b<;>try rfl
 rename_i m n s l;cases m<;>rfl

section
variable {E:Env} {P:Program} {base:Nat} {w0:W0} {c:Cx} {H:List Blk} {w:World}

theorem Bo {c':Cx} {H':List Blk} (sel:List Nat):∀(l:List Nat) (n:Nat),(∀k i,l[k]? =some i→VRel c' H' w (Ts (n+k) (aD H i)) (N7 (c.ρ i) (aD H i)))→VRels c' H' w (uS n (bu sel H l)) (l.map fun i=>N7 (c.ρ i) (aD H i))
 |[],_,_=> .nil
 |i::l,n,h=> .cons _ _ _ _ (by rw [uT];exact h 0 i rfl) (Bo sel l (n+1) fun k j hj=>by rw [show n+1+k=n+(k+1) by omega];exact h (k+1) j hj)

theorem g7 (hst:St E.glob base w0 c H w) {sel:List Nat} {i:Nat} (h:mC sel (aD H i)=true) (hgi:∃g,c.ρ i=some g):
  ∃g,c.ρ i=some g∧((∃cs,aD H i= .cells cs∧0<cs.length∧V.seenL sel cs=true∧c.β i=0)∨∃fr t es,aD H i= .imap fr t es):=by
 have hb:=hst.blk i
 cases hk:aD H i with
 |cells cs=>
  rw [hk] at hb h
  simp only [mC,Bool.and_eq_true] at h
  rcases hb with⟨g,e,cur,h1,h2,h3,_⟩|⟨_,h1⟩
  ·exact⟨g,h1,.inl ⟨cs,rfl,kC h.1,h.2,h3.1⟩⟩
  ·obtain⟨g,hg⟩:=hgi;rw [hg] at h1;cases h1.1
 |imap fr t es=>
  rw [hk] at hb
  obtain⟨g,ents,clock,h1,h2,_⟩:=hb
  exact⟨g,h1,.inr ⟨fr,t,es,rfl⟩⟩
 |dead=>rw [hk] at h;simp [mC] at h
 |row fr t xs=>rw [hk] at h;simp [mC] at h
 |mit m n s l=>rw [hk] at h;simp [mC] at h

def V.bare:V→Bool
 |.int _ _| .u8 _| .b _| .bt _| .nils| .nilfn| .tup []=>true
 |_=>false
theorem VRel.bare {c c':Cx} {H H':List Blk} {w w':World} {x:V} {v:Value} (hp:x.bare=true) (h:VRel c H w x v):VRel c' H' w' x v:=by
 cases h with
 |int k n h1 h2=>exact .int k n h1 h2
 |u8 x=>exact .u8 x
 |b p x h=>exact .b p x h
 |bt x=>exact .bt x
 |nils=>exact .nils
 |nilfn=>exact .nilfn
 |tup cs vs h=>
  cases cs with
  |nil=>cases h;exact .tup _ _ .nil
  |cons a l=>simp [V.bare] at hp
 |_=>simp [V.bare] at hp

theorem St.nogi {G:List (Nat×V)} {v:W0} (h:St G base v c H w) (hc:∀i cs,aD H i= .cells cs→∃g,c.ρ i=some g):St G base v {c with gi:=none} H w where
 below:=h.below
 xk:={keep:=h.xk.keep,siz:=h.xk.siz,cnt:=h.xk.cnt,gh:=h.xk.gh,l:=h.xk.l,dis:=h.xk.dis,xb:=h.xk.xb,mks:=h.xk.mks,gi:=fun _=>rfl}
 size:=h.size
 blk i:=by
  have hb:=h.blk i
  have hx:∀{x:V} {u:Value},VRel c H w x u→VRel {c with gi:=none} H w x u:=fun h=>h.wk (c:=c) (c':={c with gi:=none}) (fun _ h=>h) (fun _ h=>h) rfl rfl fun id s hs=>⟨hs,rfl,rfl⟩
  cases hk:aD H i with
  |dead=>trivial
  |row fr t xs=>rw [hk] at hb;exact hb
  |cells cs=>
   rw [hk] at hb
   rcases hb with⟨g,e,cur,h1,h2,h3,h4⟩|⟨_,h1,_⟩
   ·exact .inl ⟨g,e,cur,h1,h2,h3,fun j hj=>by obtain⟨u,h5,h6,h7⟩:=h4 j hj;exact⟨u,h5,h6,hx h7⟩⟩
   ·obtain⟨g,hg⟩:=hc i cs hk;rw [hg] at h1;cases h1
  |imap fr t es=>rw [hk] at hb;exact hb
  |mit m n s l=>rw [hk] at hb;cases m<;>exact hb
 inj:=h.inj
 own:=h.own
 imm:=h.imm
 sub:=h.sub
 glob g x hx:=(h.glob g x hx).wk (c:=c) (c':={c with gi:=none}) (fun _ h=>h) (fun _ h=>h) rfl rfl fun id s hs=>⟨hs,rfl,rfl⟩

noncomputable def mN (w0:W0) (c:Cx) (H:List Blk) (w:World) (sel:List Nat):W0 where
 w:=w0.w
 D g:= @ite _ (∃i∈sel,c.ρ i=some g) (Classical.propDecidable _) none w.heap[g]?
 Z g:=match w.heap[g]? with|some (.cells cur e (0,0))=>some (cur.size,e)|_=>none
 X g:=w0.X g∨((∃i,c.ρ i=some g)∧¬∃i∈sel,c.ρ i=some g)
 mks _:=False
 J _ _ _:=True
 gh:= .tuple #[]::sel.map fun i=>N7 (c.ρ i) (aD H i)
 l:=w0.l

theorem Bc (hk:Known P E) (hst:St E.glob base w0 c H w) {sel:List Nat} (hnd:sel.Nodup) (hgi:∀i,i∈sel→∃g,c.ρ i=some g) (hok:dD sel H sel=true) (hN:fo E.glob):
  St E.glob base (mN w0 c H w sel) (Cx.opn {c.ren sel with gi:=none} (fun _=>False) (mN w0 c H w sel).gh (bu sel H sel).length) (ba sel H) w:=by
 have hρ:∀k g,(c.ren sel).ρ k=some g→∃i,sel[k]? =some i∧c.ρ i=some g:=fun k g h=>by
  simpa only [Cx.ren,Option.bind_eq_some_iff] using h
 have hn:St E.glob base w0 {c.ren sel with gi:=none} (bu sel H sel) w:=(hst.ren hN hnd).nogi fun k cs hk=>by
  rw [dh] at hk
  cases hi:sel[k]? with
  |none=>rw [hi] at hk;cases hk
  |some i=>
   obtain⟨g,hg⟩:=hgi i (List.mem_of_getElem? hi)
   exact⟨g,by simp [Cx.ren,hi,hg]⟩
 refine St.open (c:={c.ren sel with gi:=none}) hn rfl (fun _ h=>h.elim) (.cons _ _ _ _ (.tup [] [] .nil) (Bo sel sel 0 fun k i hi=> ?_)) hst.below ?_
 ·obtain⟨g,hg,h⟩:=g7 hst (dZ hok (List.mem_of_getElem? hi)) (hgi i (List.mem_of_getElem? hi))
  have hr:(c.ren sel).ρ k=some g:=by simp [Cx.ren,hi,hg]
  rw [Nat.zero_add]
  rcases h with⟨cs,hc,hl,_,hb⟩|⟨fr,t,es,hc⟩
  ·have hs:aE (bu sel H sel) k=some (cs.length,1):=by rw [cD hi];unfold aE;rw [hc]
   have:=VRel.ptr (c:={c.ren sel with gi:=none}) (H:=bu sel H sel) (w:=w) k 1 0 0 g cs.length hs hr hl (by omega)
   rw [show({c.ren sel with gi:=none}:Cx).β k=c.β i from gA hi,hb] at this
   rw [hc,hg];exact this
  ·have hs:aE (bu sel H sel) k=some (0,0):=by rw [cD hi];unfold aE;rw [hc]
   rw [hc,hg];exact .mp t k g hs hr
 ·exact
   {keep:=fun g o h=>by
     have h:(@ite _ (∃i∈sel,c.ρ i=some g) (Classical.propDecidable _) none w.heap[g]?)=some o:=h
     split at h
     ·cases h
     ·rename_i h4
      refine⟨h,fun k hr=>h4 ?_⟩
      obtain⟨i,h1,h2⟩:=hρ k g hr
      exact⟨i,List.mem_of_getElem? h1,h2⟩
    siz:=fun g m h=>by
     simp only [mN] at h
     split at h
     ·rename_i cur e hc;cases h;exact⟨cur,hc,rfl⟩
     ·cases h
    cnt:=trivial
    gh:=rfl
    l:=hst.xk.l
    dis:=fun g hg hX=>hX.elim (hg.elim (hst.xk.dis g) fun h=>h.elim) fun h=>by obtain⟨i,hi⟩:=h.1;exact hg.elim (hst.own i g hi).2.2.1 fun h=>h
    xb:=fun g hX=>by
     rcases hX with hX|hX
     ·exact⟨(hst.xk.xb g hX).1,fun k hr=>by obtain⟨i,h1,h2⟩:=hρ k g hr;exact(hst.xk.xb g hX).2 i h2⟩
     ·obtain⟨i,hi⟩:=hX.1
      exact⟨(hst.own i g hi).2.1,fun k hr=>hX.2 (by obtain⟨i,h1,h2⟩:=hρ k g hr;exact⟨i,List.mem_of_getElem? h1,h2⟩)⟩
    mks:=fun _ h=>h.elim
    gi:=fun h=>by cases h}

theorem Iu (hst:St E.glob base w0 c H w) {sel:List Nat} (hnd:sel.Nodup) (hgi:∀i,i∈sel→∃g,c.ρ i=some g) (hok:dD sel H sel=true)
  {c':Cx} {L:List Blk} {w':World} (hst':St E.glob base (mN w0 c H w sel) c' (ba sel H++L) w'):
  ∃c2,St E.glob base w0 c2 H w'∧Ext c H w c2 H w':=by
 have hlen:(bu sel H sel).length=sel.length:=ga sel H sel
 have hlt:∀k i,sel[k]? =some i→k<sel.length:=fun k i h=>(List.getElem?_eq_some_iff.1 h).1
 have hgb:∀k i,sel[k]? =some i→aD (ba sel H++L) k=yi sel (aD H i):=fun k i h=>by
  have:=hlt k i h
  rw [cH,if_pos (by simp [ba,jx];omega),ba,jx,cH,if_pos (by omega),dh,h]
 have hsh:∀k i,sel[k]? =some i→aE (ba sel H++L) k=aE H i:=fun k i h=>by
  rw [←cD (H:=H) h]
  have:=hlt k i h
  unfold aE
  rw [hgb k i h,dh,h]
 have hG:=hst'.blk sel.length
 have hgG:aD (ba sel H++L) sel.length= .cells (.tup []::uS 0 (bu sel H sel)):=by
  rw [cH,if_pos (by simp [ba,jx];omega),ba,jx,cH,if_neg (by omega),hlen,Nat.sub_self];rfl
 rw [hgG] at hG
 have hgv:VRels c' (ba sel H++L) w' (.tup []::uS 0 (bu sel H sel)) (.tuple #[]::sel.map fun i=>N7 (c.ρ i) (aD H i)):=by
  rcases hG with⟨_,_,_,_,_,_,h4⟩|⟨_,_,h4⟩
  ·obtain⟨v,_,h5,h6⟩:=h4 0 (by simp)
   have h6:VRel c' (ba sel H++L) w' (.tup []) v:=h6
   rw [h6.tup0_inv] at h5;cases h5
  ·rw [hst'.xk.gh] at h4;exact h4
 have hpl:∀k i,sel[k]? =some i→c'.ρ k=c.ρ i∧(aE H i≠some (0,0)→c'.β k=0∧c.β i=0):=fun k i h=>by
  have hm:=List.mem_of_getElem? h
  have h1:=hgv.get (k+1)
  have e1:aL (.tup []::uS 0 (bu sel H sel)) (k+1)=Ts k (aD H i):=by
   show aL (uS 0 (bu sel H sel)) k=_
   rw [rB,tc,h];simp [uT]
  have e2:(Value.tuple #[]::sel.map fun i=>N7 (c.ρ i) (aD H i)).getD (k+1) undef=N7 (c.ρ i) (aD H i):=by
   simp [List.getD,h]
  rw [e1,e2] at h1
  obtain⟨g,hg,hc⟩:=g7 hst (dZ hok hm) (hgi i hm)
  have hbk:=hst'.blk k
  rw [hgb k i h] at hbk
  rcases hc with⟨cs,hc,hl,_,hb⟩|⟨fr,t,es,hc⟩
  ·rw [hc,hg] at h1
   have h1:VRel c' (ba sel H++L) w' (.ptr k 1 0 0) (.pointer (some ⟨g,0,none⟩)):=h1
   obtain⟨g',m,_,h2,_,_,h3⟩:=h1.ptr_inv
   injection h3 with h3;injection h3 with h3;injection h3 with h3 h4 h5
   rw [h2,hg,h3]
   refine⟨rfl,fun _=>⟨?_,hb⟩⟩
   omega
  ·rw [hc,hg] at h1
   have h1:VRel c' (ba sel H++L) w' (.mp t k) (.map (some g)):=h1
   cases h1 with|mp _ _ _ _ h2=>
   exact⟨h2.trans hg.symm,fun h=>absurd (by unfold aE;rw [hc]) h⟩
 let sd:Nat→Prop:=fun g=>∃i∈sel,c.ρ i=some g
 have hsd:∀g,sd g→∃k i,sel[k]? =some i∧c.ρ i=some g∧c'.ρ k=some g:=fun g ⟨i,h1,h2⟩=>by
  obtain⟨k,hk⟩:=List.mem_iff_getElem?.1 h1
  exact⟨k,i,hk,h2,(hpl k i hk).1.trans h2⟩
 have keepf:∀g,¬sd g→g<w.heap.size→w'.heap[g]? =w.heap[g]? :=fun g h4 hlt=>by
  have h1:w.heap[g]? =some (w.heap[g]'hlt):=Array.getElem?_eq_getElem hlt
  rw [h1]
  refine(hst'.xk.keep g _ ?_).1
  show(@ite _ (∃i∈sel,c.ρ i=some g) (Classical.propDecidable _) none w.heap[g]?)=_
  rw [if_neg h4];exact h1
 have sizf:∀(g:Nat) (cur:Array Value) (e:TypeId),w.heap[g]? =some (.cells cur e (0,0))→∃cur',w'.heap[g]? =some (.cells cur' e (0,0))∧cur'.size=cur.size:=fun g cur e h=>by
  exact hst'.xk.siz g (cur.size,e) (by show(match w.heap[g]? with|some (.cells cur e (0,0))=>some (cur.size,e)|_=>none)=_;rw [h];rfl)
 have ltf:∀g,g<w.heap.size→g<w'.heap.size:=fun g hg=>by
  rcases Classical.em (sd g) with h4|h4
  ·obtain⟨k,i,_,_,h⟩:=hsd g h4;exact(hst'.own k g h).2.1
  ·have:=keepf g h4 hg
   rw [Array.getElem?_eq_getElem hg] at this
   exact(Array.getElem?_eq_some_iff.1 this).1
 let c2:Cx:={M:=fun g=>c.M g∨c'.M g,N:=fun g=>c.N g∨c'.N g,ρ:=c.ρ,β:=c.β,x:=c.x,gi:=c.gi}
 have hMs:∀g,c.M g→¬sd g:=fun g hg ⟨i,_,hi⟩=>(hst.own i g hi).2.2.1 hg
 have hext:Ext c H w c2 H w':=
  {M:=fun _ h=> .inl h
   N:=fun _ h=> .inl h
   mem:=fun g hg=>keepf g (hMs g (hg.elim (fun h=>h) fun h=>(hst.sub g h).1)) (hst.imm g (hg.elim (fun h=>h) fun h=>(hst.sub g h).1))
   shp:=fun i s hs=>⟨hs,rfl⟩
   siz:=fun i s g cur e _ _ hg=>sizf g cur e hg
   x:=rfl
   gi:=rfl
   bas:=fun _ _ _=>rfl}
 have hun:∀k i,sel[k]? =some i→c2.ρ i=c'.ρ k∧aE H i=aE (ba sel H++L) k∧(aE (ba sel H++L) k≠some (0,0)→c2.β i=c'.β k):=fun k i h=>by
  refine⟨(hpl k i h).1.symm,(hsh k i h).symm,fun hne=> ?_⟩
  rw [hsh k i h] at hne
  obtain⟨q1,q2⟩:=(hpl k i h).2 hne
  exact q2.trans q1.symm
 refine⟨c2,?_,hext⟩
 exact
  {below:=hst'.below
   xk:=
    {keep:=fun g o h=>by
      obtain⟨h1,h2⟩:=hst.xk.keep g o h
      exact⟨(keepf g (fun⟨i,_,hi⟩=>h2 i hi) (Array.getElem?_eq_some_iff.1 h1).1).trans h1,h2⟩
     siz:=fun g m hm=>by
      obtain⟨cur,h1,h2⟩:=hst.xk.siz g m hm
      obtain⟨cur',h3,h4⟩:=sizf g cur m.2 h1
      exact⟨cur',h3,h4.trans h2⟩
     cnt:=hst.xk.cnt
     gh:=hst.xk.gh
     l:=hst.xk.l
     dis:=fun g hg hX=>hg.elim (fun h=>hst.xk.dis g h hX) fun h=>hst'.xk.dis g h (.inl hX)
     xb:=fun g hX=>⟨ltf g (hst.xk.xb g hX).1,(hst.xk.xb g hX).2⟩
     mks:=hst.xk.mks
     gi:=hst.xk.gi}
   size:=hst'.size
   blk:=fun i=>by
    by_cases hi:i∈sel
    ·obtain⟨k,hk⟩:=List.mem_iff_getElem?.1 hi
     obtain⟨g,hg,hc⟩:=g7 hst (dZ hok hi) (hgi i hi)
     have hbk:=hst'.blk k
     rw [hgb k i hk] at hbk
     have hr:c'.ρ k=some g:=(hpl k i hk).1.trans hg
     rcases hc with⟨cs,hc,hl,hse,hb⟩|⟨fr,t,es,hc⟩
     ·rw [hc] at hbk ⊢
      rcases hbk with⟨g',e,cur,q1,q2,q3,q4⟩|⟨_,q,_⟩
      ·rw [hr] at q1;cases q1
       rw [de] at q3 q4
       refine .inl ⟨g,e,cur,hg,q2,⟨hb,q3.2⟩,fun j hj=> ?_⟩
       obtain⟨v,q5,q6,q7⟩:=q4 j hj
       rw [kZ] at q7
       exact⟨v,by rw [q3.1] at q5;rw [show c2.β i=0 from hb];exact q5,q6,VRel.unren (c2:=c2) (fun _ h=>Or.inr h) (fun _ h=>Or.inr h) hun _ (V.seenL_gets hse j) q7⟩
      ·rw [hr] at q;cases q
     ·rw [hc] at hbk ⊢
      obtain⟨g',ents,clock,h1,h2,h3,h4,h5,h6⟩:=hbk
      rw [hr] at h1;cases h1
      refine⟨g,ents,clock,hg,h2,h3,h4,h5,fun j n x hj=> ?_⟩
      obtain⟨v,b,h7,h8,h9⟩:=h6 j n x hj
      exact⟨v,b,h7,h8,aJ.ext (M:=c'.im fr) (by cases fr;exact fun _ h=> .inr h;exact fun _ h=> .inr h) (fun _ _=>rfl) _ _ _ h9⟩
    ·refine ig.keep hext (fun _=>rfl) (fun _=>rfl) (fun g hg=>keepf g (fun⟨j,h1,h2⟩=>hi ?_) (hst.own i g hg).2.1) (hst.blk i)
     rw [hst.inj i j g hg h2];exact h1
   inj:=hst.inj
   own:=fun i g hi=>by
    obtain⟨h1,h2,h3,h4⟩:=hst.own i g hi
    refine⟨h1,ltf g h2,fun hm=>hm.elim h3 fun hm=> ?_,h4⟩
    rcases Classical.em (sd g) with h5|h5
    ·obtain⟨k,j,_,_,h⟩:=hsd g h5
     exact(hst'.own k g h).2.2.1 hm
    ·exact hst'.xk.dis g hm (.inr ⟨⟨i,hi⟩,h5⟩)
   imm:=fun g hg=>hg.elim (fun h=>ltf g (hst.imm g h)) (hst'.imm g)
   sub:=fun g hg=>hg.elim (fun h=>⟨.inl (hst.sub g h).1,(hst.sub g h).2⟩) fun h=>⟨.inr (hst'.sub g h).1,(hst'.sub g h).2⟩
   glob:=fun g y hy=>(hst.glob g y hy).ext hext}

theorem Ny (hk:Known P E) (hyl:E.yl=none) (hrf:E.rf=false) {f:FuncId} {fn:Func} (hf:P.funcs[f]? =some fn) {vs:List Value} {args:List V} (hst:St E.glob base w0 c H w) (hv:VRels c H w args vs)
  {sel:List Nat} (hnd:sel.Nodup) (hgi:∀i,i∈sel→∃g,c.ρ i=some g) (hok:dD sel H sel=true) {R:V→Prop}
  (hb:body E fn (renL sel args) (ba sel H) (fun v H'=>(v.bare=true∧R v)∧∃L,H'=ba sel H++L)):
  Calls P f vs.toArray w fun e w'=>∃x v c',e= .returned v∧R x∧VRel c' H w' x v∧St E.glob base w0 c' H w'∧Ext c H w c' H w':=by
 have h0:=Bc hk hst hnd hgi hok hk.noref
 have hv0:VRels (Cx.opn {c.ren sel with gi:=none} (fun _=>False) (mN w0 c H w sel).gh (bu sel H sel).length) (ba sel H) w (renL sel args) vs:=
  (hv.ren fun k i hk=>cD hk).wk (c:=c.ren sel) (H:=bu sel H sel) (c':=Cx.opn {c.ren sel with gi:=none} (fun _=>False) (mN w0 c H w sel).gh (bu sel H sel).length) (fun _ h=>Or.inl h) (fun _ h=>h) rfl rfl fun id s hs=>⟨bj hs,rfl,rfl⟩
 refine(xe hk hyl hrf (fun _ _ _=>trivial) (fun _ h=>h) hf h0 hv0 hb).mono ?_
 rintro e w' ⟨x,v,H',c',rfl,⟨⟨hp,hR⟩,L,rfl⟩,hx,hst'⟩
 obtain⟨c2,h1,h2⟩:=Iu hst hnd hgi hok hst'
 exact⟨x,v,c2,rfl,hR,hx.bare hp,h1,h2⟩

def wM:List V→List Nat
 |[]=> []
 |.ptr i _ _ _::l=>i::wM l
 |_::l=>wM l
def sf:List V→List Nat
 |[]=> []
 |.mp _ i::l=>i::sf l
 |_::l=>sf l
def sg (H:List Blk):List Nat→List Nat
 |[]=> []
 |i::l=>(match aD H i with| .cells cs=>sf cs|_=> [])++sg H l
def bW (args:List V) (H:List Blk):List Nat:=wM args++(sg H (wM args)++sf args)
def eD (spec:List V→List Blk→Option (Prop×V)):bI:=fun args H R=>
 match spec (renL (bW args H) args) (bu (bW args H) H (bW args H)) with
 |some (p,v)=>(nQ (bW args H)=true∧dD (bW args H) H (bW args H)=true)∧p∧R v H
 |none=>False
def wI (μ:List V→List Blk→Nat) (n:Nat) (spec:List V→List Blk→Option (Prop×V)):List V→List Blk→Option (Prop×V):=fun xs H=>
 match spec xs H with
 |some (p,v)=>some (p∧μ xs H<n,v)
 |none=>none

theorem qY {H H2:List Blk}:∀{l:List Nat},(∀i,i∈l→aD H2 i=aD H i)→sg H2 l=sg H l
 |[],_=>rfl
 |i::l,h=>by
  unfold sg
  rw [h i (by simp),qY fun j hj=>h j (by simp [hj])]
theorem sQ {sel:List Nat} {H H2:List Blk}:∀{l:List Nat},(∀i,i∈l→aD H2 i=aD H i)→bu sel H2 l=bu sel H l
 |[],_=>rfl
 |i::l,h=>by
  unfold bu
  rw [h i (by simp),sQ fun j hj=>h j (by simp [hj])]
theorem oL {sel:List Nat} {H H2:List Blk}:∀{l:List Nat},(∀i,i∈l→aD H2 i=aD H i)→dD sel H2 l=dD sel H l
 |[],_=>rfl
 |i::l,h=>by
  unfold dD
  rw [h i (by simp),oL fun j hj=>h j (by simp [hj])]
theorem qf {spec:List V→List Blk→Option (Prop×V)} {args:List V} {H H2:List Blk} {R R2:V→List Blk→Prop} (hg:∀i,aD H i≠ .dead→aD H2 i=aD H i) (hR:∀v,R v H→R2 v H2) (h:eD spec args H R):eD spec args H2 R2:=by
 unfold eD at h
 split at h<;>try exact h.elim
 rename_i p v hs
 obtain⟨⟨h1,h2⟩,h3,h4⟩:=h
 have hq:∀i,i∈bW args H→aD H2 i=aD H i:=fun i hi=>hg i fun e=>by
  have:=dZ h2 hi
  rw [e] at this
  simp [mC] at this
 have hl:bW args H2=bW args H:=by
  unfold bW
  rw [qY fun i hi=>hq i (List.mem_append.2 (.inl hi))]
 unfold eD
 rw [hl,sQ hq,hs]
 exact⟨⟨h1,by rw [oL hq];exact h2⟩,h3,hR _ h4⟩
theorem Det.look (spec:List V→List Blk→Option (Prop×V)):Det (eD spec) where
 det args H R h:=by
  have h0:=h
  unfold eD at h
  split at h<;>try exact h.elim
  rename_i p v hs
  refine⟨v, [],by rw [List.append_nil];exact h.2.2,fun R' hR'=> ?_⟩
  unfold eD
  rw [hs]
  rw [List.append_nil] at hR'
  exact⟨h.1,h.2.1,hR'⟩
 mono args H H2 v0 hle hv h:=qf hle (fun v h=>⟨h.1,rfl⟩) h
 fill args H F R R2 hF hR h:=qf (fun i hi=>by rw [hF.get,hF.no hi,Option.getD_none]) (fun v h=>hR v H h) h

theorem gX:∀{xs:List V} {vs:List Value} {i:Nat},VRels c H w xs vs→i∈wM xs→∃g,c.ρ i=some g
 |[],_,i,_,h=>by cases h
 | x::xs,_,i,h,hi=>by
  obtain⟨v,us,rfl,h1,h2⟩:=h.cons_inv
  cases x with
  |ptr j z a o=>
   rcases List.mem_cons.1 hi with rfl|hi
   ·obtain⟨g,_,_,hg,_⟩:=h1.ptr_inv;exact⟨g,hg⟩
   ·exact gX h2 hi
  |_=>exact gX h2 hi
theorem qX:∀{xs:List V} {i:Nat},i∈sf xs→∃j t,j<xs.length∧aL xs j= .mp t i
 |[],i,h=>by cases h
 | x::xs,i,hi=>by
  have go:i∈sf xs→∃j t,j<(x::xs).length∧aL (x::xs) j= .mp t i:=fun h=>by
   obtain⟨j,t,h1,h2⟩:=qX h
   exact⟨j+1,t,by simp;omega,h2⟩
  cases x with
  |mp t j=>
   rcases List.mem_cons.1 hi with rfl|hi
   ·exact⟨0,t,by simp,rfl⟩
   ·exact go hi
  |_=>exact go hi
theorem oQ (hst:St E.glob base w0 c H w):∀{l:List Nat} {i:Nat},(∀j,j∈l→∃g,c.ρ j=some g)→i∈sg H l→∃g,c.ρ i=some g
 |[],i,_,h=>by cases h
 | j::l,i,hl,h=>by
  rcases List.mem_append.1 h with h|h
  ·have hb:=hst.blk j
   split at h
   ·rename_i cs hk
    rw [hk] at hb
    obtain⟨q,t,h1,h2⟩:=qX h
    rcases hb with⟨g,e,cur,_,_,_,h4⟩|⟨_,h3,_⟩
    ·obtain⟨v,_,_,h5⟩:=h4 q h1
     rw [h2] at h5
     cases h5 with|mp _ _ g _ h6=>exact⟨g,h6⟩
    ·obtain⟨g,hg⟩:=hl j (by simp);rw [hg] at h3;cases h3
   ·cases h
  ·exact oQ hst (fun k hk=>hl k (by simp [hk])) h
theorem lA (hst:St E.glob base w0 c H w) {args:List V} {vs:List Value} (hv:VRels c H w args vs) {i:Nat} (h:i∈bW args H):∃g,c.ρ i=some g:=
 (List.mem_append.1 h).elim (gX hv) fun h=>(List.mem_append.1 h).elim (oQ hst fun _=>gX hv) fun h=>by
  obtain⟨j,t,_,h2⟩:=qX h
  have h3:=hv.get j
  rw [h2] at h3
  generalize vs.getD j undef=v at h3
  cases h3 with|mp _ _ g _ h6=>exact⟨g,h6⟩

theorem Known.addLook {z:List Nat} {P:Program} {tys:List (Nat×Ty)} {G:List (Nat×V)} {l:List (Nat×bI)} {q:List (Nat×gU)} (h:Known P (En l tys G q z)) {f:Nat} {fn:Func} (hf:P.funcs[f]? =some fn) (hent:∀args w,(callFunc f args).run P w= .ok (.enter f args) w)
  {spec:List V→List Blk→Option (Prop×V)} (μ:List V→List Blk→Nat)
  (hb:∀xs H p v,spec xs H=some (p,v)→p→body (En ((f,eD (wI μ (μ xs H) spec))::l) tys G q z).inR fn xs (jx H) (fun v' H'=>(v'.bare=true∧v'=v)∧∃L,H'=jx H++L)):
  Known P (En ((f,eD spec)::l) tys G q z):=by
 have step:∀(base:Nat) (w0:W0) (c:Cx) (H:List Blk) (w:World) (args:List V) (vs:List Value) (R:V→List Blk→Prop) (n:Nat),(∀m,m<n→mz P G f (eD (wI μ m spec)))→St G base w0 c H w→VRels c H w args vs→eD (wI μ n spec) args H R→
   Calls P f vs.toArray w fun e w'=>∃x v H' c',e= .returned v∧R x H'∧VRel c' H' w' x v∧St G base w0 c' H' w'∧Ext c H w c' H' w':=by
  intro base w0 c H w args vs R n ih hst hv hc
  unfold eD at hc
  split at hc<;>try exact hc.elim
  rename_i p v hsp
  obtain⟨⟨hnd,hok⟩,hp,hc⟩:=hc
  unfold wI at hsp
  split at hsp<;>try cases hsp
  rename_i p0 hsp0
  refine(Ny (h.cons (ih _ hp.2) (Det.look _)).inR rfl rfl hf hst hv (it _ hnd) (fun i hi=>lA (E:=En l tys G q z) hst hv hi) hok (R:=fun v'=>v'=v) (hb _ _ p0 v hsp0 hp.1)).mono ?_
  rintro e w' ⟨x,u,c',rfl,rfl,h1,h2,h3⟩
  exact⟨_,u,_,c',rfl,hc,h1,h2,h3⟩
 have key:∀n,mz P G f (eD (wI μ n spec)):=fun n=>by
  induction n using Nat.strongRecOn with
  |_ n ih=>exact⟨hent,fun base w0 c H w args vs hst hv R hc=>step base w0 c H w args vs R n ih hst hv hc⟩
 refine h.cons ⟨hent,fun base w0 c H w args vs hst hv R hc=> ?_⟩ (Det.look _)
 have hto:∃n,eD (wI μ n spec) args H R:=by
  unfold eD at hc
  split at hc<;>try exact hc.elim
  rename_i p v hsp
  refine⟨μ (renL (bW args H) args) (bu (bW args H) H (bW args H))+1,?_⟩
  unfold eD
  simp only [wI,hsp]
  exact⟨hc.1,⟨hc.2.1,by omega⟩,hc.2.2⟩
 obtain⟨n,hto⟩:=hto
 exact(key n).2 base w0 c H w args vs hst hv R hto
end
end
theorem om (p:Prop) (h:p:=by first|omega|assumption|decide+kernel):p:=h
theorem oc (p:Prop) [Decidable p] (h:p:=by decide+kernel):p:=h
theorem dp (p:Prop) [Decidable p] {Y:Prop} (h:p:=by decide+kernel):¬p→Y:=fun g=>absurd h g
theorem dn (p:Prop) [Decidable p] {Y:Prop} (h:¬p:=by decide+kernel):p→Y:=fun g=>absurd g h
theorem os (p:Prop) (h:p:=by first|omega|assumption|(simp only [List.length_cons,List.length_nil,List.length_append,List.length_take,List.length_drop,List.length_set,List.length_replicate];omega)):p:=h
theorem cs {α:Sort _} {a:α} {Y:Prop}:a≠a→Y:=fun h=>absurd rfl h
theorem nw {p:Prop} (h:¬¬p):p:=Classical.not_not.1 h
abbrev F7:Ty:= .cons (.sl (.int .i64)) (.cons (.int .i64) (.cons (.int .i64) (.cons (.int .i64) (.cons (.int .i64) (.cons (.int .i64) .nil)))))
abbrev sK:Ty:= .cons (.int .i64) (.cons .str (.cons (.sl (.sl .str)) (.cons (.sl (.sl (.sl .str))) .nil)))
abbrev pC:Ty:= .cons (.int .i64) (.cons (.int .i64) (.cons (.int .i64) (.cons (.int .i64) (.cons (.sl .str) .nil))))
abbrev oo:Ty:= .cons (.int .i64) (.cons (.sl (.int .i64)) .nil)
abbrev La (hs:List Int) (a b c d e:Int):V:= .agg [.sl false (.int .i64) hs,.int .i64 a,.int .i64 b,.int .i64 c,.int .i64 d,.int .i64 e]
abbrev V8 (me:Int) (sh:List UInt8) (R:List (List (List UInt8))) (W:List (List (List (List UInt8)))):V:= .agg [.int .i64 me,.str sh,.sl false (.sl .str) R,.sl false (.sl (.sl .str)) W]
theorem aj (x:Int) (h: -9223372036854775808≤x∧x≤9223372036854775807:=by first|omega|decide+kernel): -9223372036854775808≤x∧x≤9223372036854775807:=h
theorem ix (a b:Int) (h:0≤a∧a<b:=by first|omega|decide+kernel):0≤a∧a<b:=h
theorem l9 (n:Nat) (h:n+1≤1000000000:=by first|omega|decide+kernel):n+1≤1000000000:=h
theorem yn (p:Prop) {X Y:Prop} (x:p→X) (y:¬p→Y):(p→X)∧(¬p→Y):=⟨x,y⟩
theorem ny (p:Prop) {X Y:Prop} (x:¬p→X) (y:p→Y):(¬p→X)∧(p→Y):=⟨x,y⟩
theorem ya {p X Y:Prop} [Decidable p] (x:X) (h:decide p=true:=by kernel_rfl):(p→X)∧(¬p→Y):=⟨fun _=>x,fun g=>absurd (of_decide_eq_true h) g⟩
theorem ye {p X Y:Prop} [Decidable p] (x:X) (h:decide p=true:=by rfl):(p→X)∧(¬p→Y):=⟨fun _=>x,fun g=>absurd (of_decide_eq_true h) g⟩
theorem nf {p X Y:Prop} [Decidable p] (y:Y) (h:decide p=false:=by rfl):(p→X)∧(¬p→Y):=⟨fun g=>absurd g (of_decide_eq_false h),fun _=>y⟩
theorem na {p X Y:Prop} [Decidable p] (y:Y) (h:decide p=false:=by kernel_rfl):(p→X)∧(¬p→Y):=⟨fun g=>absurd g (of_decide_eq_false h),fun _=>y⟩
theorem l1:1≤1000000000:=by decide
theorem l0 (n:Nat) (h:n≤1000000000:=by first|omega|decide+kernel):0+n≤1000000000:=by omega
theorem cp (p:Prop) {Y:Prop} (h:p:=by first|omega|assumption|decide|simp_all):¬p→Y:=fun g=>absurd h g
theorem cn (p:Prop) {Y:Prop} (h:¬p:=by first|omega|assumption|decide|simp_all):p→Y:=fun g=>absurd g h
theorem fN {α β:Sort _} {a:α} {b:β}:a=a∧b=b:=⟨rfl,rfl⟩
theorem jP {α β γ:Sort _} {a:α} {b:β} {c:γ}:a=a∧b=b∧c=c:=⟨rfl,rfl,rfl⟩
theorem ao {α β γ δ:Sort _} {a:α} {b:β} {c:γ} {d:δ}:a=a∧b=b∧c=c∧d=d:=⟨rfl,rfl,rfl,rfl⟩
theorem cm {α β γ:Sort _} {a:α} {b:β} {c:γ} {n m:Nat} (h:Nat.ble n m=true:=by rfl):a=a∧b=b∧c=c∧n≤m:=⟨rfl,rfl,rfl,Nat.le_of_ble_eq_true h⟩
abbrev V.i (x:Int):V:= .int .i64 x
abbrev V.p (n:Nat):V:= .ptr n 1 0 0
abbrev Blk.r (t:Ty) (xs:List t.D):Blk:= .row true t xs
abbrev Mm (hs:List Int) (a b c d e:Int):Blk:= .cells [.sl false (.int .i64) hs,.int .i64 a,.int .i64 b,.int .i64 c,.int .i64 d,.int .i64 e]
abbrev Yy (me:Int) (sh:List UInt8) (R:List (List (List UInt8))) (W:List (List (List (List UInt8)))):Blk:= .cells [.int .i64 me,.str sh,.sl false (.sl .str) R,.sl false (.sl (.sl .str)) W]
theorem qd {p:Prop} [Decidable p] (h:decide p=true:=by kernel_rfl):p:=of_decide_eq_true h
theorem qi {a b:Int} (h:(decide (0≤a)&&decide (a<b))=true:=by kernel_rfl):0≤a∧a<b:=by rw [Bool.and_eq_true,decide_eq_true_eq,decide_eq_true_eq] at h;exact h
theorem Qh {x:Int} (h:(decide (-9223372036854775808≤x)&&decide (x≤9223372036854775807))=true:=by kernel_rfl): -9223372036854775808≤x∧x≤9223372036854775807:=by rw [Bool.and_eq_true,decide_eq_true_eq,decide_eq_true_eq] at h;exact h
theorem lq {n m:Nat} (h:Nat.ble n m=true:=by kernel_rfl):n≤m:=Nat.le_of_ble_eq_true h
class Sz (m:outParam Nat):Prop where t:True
abbrev mS {m:Nat} [Sz m]:Nat:=m
theorem mSq {m:Nat} [Sz m]:mS=m:=rfl
class Rd (a:outParam Nat):Prop where t:True
def ap (E:Env) (fn:Func) (ms:List Mode) (s:List V→Option (Prop×V×List Blk)) (ds:List V):Prop:=
 match s ds with
 |some (p,v,bs)=>p→bL E fn ms ds v bs
 |none=>True
def tA (E:Env) (fn:Func) (ms:List Mode) (s:List V→Option (Prop×V×List Blk)) (ds:List V):Prop:=
 match s ds with
 |some (p,v,bs)=>p→Kc E fn ms ds v bs
 |none=>True
theorem Known.addQ {z:List Nat} {P:Program} {tys:List (Nat×Ty)} {G:List (Nat×V)} {l:List (Nat×bI)} {q:List (Nat×gU)} (h:Known P (En l tys G q z)) {f:Nat} {fn:Func} (hf:P.funcs[f]? =some fn) (hent:∀args w,(callFunc f args).run P w= .ok (.enter f args) w)
  {ks:List PK} {spec:List V→Option (Prop×V×List Blk)} (ms:List Mode) (hb:∀ds p v bs,spec ds=some (p,v,bs)→ap (En l tys G q z) fn ms spec ds):Known P (En ((f,aS ks spec)::l) tys G q z):=
 h.add hf hent ms fun ds p v bs e hp=>by
  have g:=hb ds p v bs e
  unfold ap at g
  rw [e] at g
  exact g hp
theorem Known.addR {z:List Nat} {P:Program} {tys:List (Nat×Ty)} {G:List (Nat×V)} {l:List (Nat×bI)} {q:List (Nat×gU)} (h:Known P (En l tys G q z)) {f:Nat} {fn:Func} (hf:P.funcs[f]? =some fn) (hent:∀args w,(callFunc f args).run P w= .ok (.enter f args) w)
  {ks:List PK} {spec:List V→Option (Prop×V×List Blk)} (ms:List Mode) (hb:∀ds p v bs,spec ds=some (p,v,bs)→tA (En l tys G q z) fn ms spec ds):Known P (En ((f,uO ks spec)::l) tys G q z):=
 h.addI hf hent ms fun ds p v bs e hp=>by
  have g:=hb ds p v bs e
  unfold tA at g
  rw [e] at g
  exact g hp
end Go.Proofs.YtogipicegdbhdaaDoor.Vc

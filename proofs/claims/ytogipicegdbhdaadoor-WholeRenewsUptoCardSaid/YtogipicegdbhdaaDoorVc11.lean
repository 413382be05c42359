/- Texts of this claim. -/
import Derived.Test.YtogipicegdbhdaaDoorVc10
import Derived.Lib.SlKeysI
import Derived.WideShapes
import Derived.Test.YtogipicegdbhdaaDoorVc9
import Derived.Carry
import Derived.OpenShut
import Derived.ChangeArms
import Derived.Lib.LaidTab
set_option linter.unusedVariables false
set_option linter.unusedSimpArgs false
namespace Go.Proofs.YtogipicegdbhdaaDoor.Vc
open Go Go.RowKit
section
section
variable {E:Env} {P:Program} {base:Nat} {w0:W0} {c:Cx} {H:List Blk} {w:World}
theorem Jp (hst:St E.glob base w0 c H w) {sel:List Nat} (hnd:sel.Nodup) (hgi:∀i,i∈sel→∃g,c.ρ i=some g) (hok:dD sel H sel=true)
  {H2:List Blk} (hl2:H2.length=H.length) (ho2:∀i,i∉sel→aD H2 i=aD H i) (hs2:∀i,aE H2 i=aE H i) (hg2:uS 0 (bu sel H2 sel)=uS 0 (bu sel H sel)) (hok2:dD sel H2 sel=true)
  {c':Cx} {L:List Blk} {w':World} (hst':St E.glob base (mN w0 c H w sel) c' (ba sel H2++L) w'):
  ∃c2,St E.glob base w0 c2 H2 w'∧Ext c H w c2 H2 w':=by
 have hlen:(bu sel H2 sel).length=sel.length:=ga sel H2 sel
 have hlt:∀k i,sel[k]? =some i→k<sel.length:=fun k i h=>(List.getElem?_eq_some_iff.1 h).1
 have hgb:∀k i,sel[k]? =some i→aD (ba sel H2++L) k=yi sel (aD H2 i):=fun k i h=>by
  have:=hlt k i h
  rw [cH,if_pos (by simp [ba,jx];omega),ba,jx,cH,if_pos (by omega),dh,h]
 have hsh:∀k i,sel[k]? =some i→aE (ba sel H2++L) k=aE H2 i:=fun k i h=>by
  rw [←cD (H:=H2) h]
  have:=hlt k i h
  unfold aE
  rw [hgb k i h,dh,h]
 have hG:=hst'.blk sel.length
 have hgG:aD (ba sel H2++L) sel.length= .cells (.tup []::uS 0 (bu sel H sel)):=by
  rw [←hg2,cH,if_pos (by simp [ba,jx];omega),ba,jx,cH,if_neg (by omega),hlen,Nat.sub_self];rfl
 rw [hgG] at hG
 have hgv:VRels c' (ba sel H2++L) w' (.tup []::uS 0 (bu sel H sel)) (.tuple #[]::sel.map fun i=>N7 (c.ρ i) (aD H i)):=by
  rcases hG with⟨_,_,_,_,_,_,h4⟩|⟨_,_,h4⟩
  ·obtain⟨v,_,h5,h6⟩:=h4 0 (by simp)
   have h6:VRel c' (ba sel H2++L) w' (.tup []) v:=h6
   rw [h6.tup0_inv] at h5;cases h5
  ·rw [hst'.xk.gh] at h4;exact h4
 have hpl:∀k i,sel[k]? =some i→c'.ρ k=c.ρ i∧(aE H i≠some (0,0)→c'.β k=0∧c.β i=0):=fun k i h=>by
  have hm:=List.mem_of_getElem? h
  have h1:=hgv.get (k+1)
  have e1:aL (.tup []::uS 0 (bu sel H sel)) (k+1)=Ts k (aD H i):=by
   show aL (uS 0 (bu sel H sel)) k=_
   rw [rB,tc,h];simp [uT]
  have e2:(Value.tuple #[]::sel.map fun i=>N7 (c.ρ i) (aD H i)).getD (k+1) undef=N7 (c.ρ i) (aD H i):=by
   simp [List.getD,h]
  rw [e1,e2] at h1
  obtain⟨g,hg,hc⟩:=g7 hst (dZ hok hm) (hgi i hm)
  have hbk:=hst'.blk k
  rw [hgb k i h] at hbk
  rcases hc with⟨cs,hc,hl,_,hb⟩|⟨fr,t,es,hc⟩
  ·rw [hc,hg] at h1
   have h1:VRel c' (ba sel H2++L) w' (.ptr k 1 0 0) (.pointer (some ⟨g,0,none⟩)):=h1
   obtain⟨g',m,_,h2,_,_,h3⟩:=h1.ptr_inv
   injection h3 with h3;injection h3 with h3;injection h3 with h3 h4 h5
   rw [h2,hg,h3]
   refine⟨rfl,fun _=>⟨?_,hb⟩⟩
   omega
  ·rw [hc,hg] at h1
   have h1:VRel c' (ba sel H2++L) w' (.mp t k) (.map (some g)):=h1
   cases h1 with|mp _ _ _ _ h2=>
   exact⟨h2.trans hg.symm,fun h=>absurd (by unfold aE;rw [hc]) h⟩
 let sd:Nat→Prop:=fun g=>∃i∈sel,c.ρ i=some g
 have hsd:∀g,sd g→∃k i,sel[k]? =some i∧c.ρ i=some g∧c'.ρ k=some g:=fun g ⟨i,h1,h2⟩=>by
  obtain⟨k,hk⟩:=List.mem_iff_getElem?.1 h1
  exact⟨k,i,hk,h2,(hpl k i hk).1.trans h2⟩
 have keepf:∀g,¬sd g→g<w.heap.size→w'.heap[g]? =w.heap[g]? :=fun g h4 hlt=>by
  have h1:w.heap[g]? =some (w.heap[g]'hlt):=Array.getElem?_eq_getElem hlt
  rw [h1]
  refine(hst'.xk.keep g _ ?_).1
  show(@ite _ (∃i∈sel,c.ρ i=some g) (Classical.propDecidable _) none w.heap[g]?)=_
  rw [if_neg h4];exact h1
 have sizf:∀(g:Nat) (cur:Array Value) (e:TypeId),w.heap[g]? =some (.cells cur e (0,0))→∃cur',w'.heap[g]? =some (.cells cur' e (0,0))∧cur'.size=cur.size:=fun g cur e h=>by
  exact hst'.xk.siz g (cur.size,e) (by show(match w.heap[g]? with|some (.cells cur e (0,0))=>some (cur.size,e)|_=>none)=_;rw [h];rfl)
 have ltf:∀g,g<w.heap.size→g<w'.heap.size:=fun g hg=>by
  rcases Classical.em (sd g) with h4|h4
  ·obtain⟨k,i,_,_,h⟩:=hsd g h4;exact(hst'.own k g h).2.1
  ·have:=keepf g h4 hg
   rw [Array.getElem?_eq_getElem hg] at this
   exact(Array.getElem?_eq_some_iff.1 this).1
 let c2:Cx:={M:=fun g=>c.M g∨c'.M g,N:=fun g=>c.N g∨c'.N g,ρ:=c.ρ,β:=c.β,x:=c.x,gi:=c.gi}
 have hMs:∀g,c.M g→¬sd g:=fun g hg ⟨i,_,hi⟩=>(hst.own i g hi).2.2.1 hg
 have hext:Ext c H w c2 H2 w':=
  {M:=fun _ h=> .inl h
   N:=fun _ h=> .inl h
   mem:=fun g hg=>keepf g (hMs g (hg.elim (fun h=>h) fun h=>(hst.sub g h).1)) (hst.imm g (hg.elim (fun h=>h) fun h=>(hst.sub g h).1))
   shp:=fun i s hs=>⟨(hs2 i).trans hs,rfl⟩
   siz:=fun i s g cur e _ _ hg=>sizf g cur e hg
   x:=rfl
   gi:=rfl
   bas:=fun _ _ _=>rfl}
 have hun:∀k i,sel[k]? =some i→c2.ρ i=c'.ρ k∧aE H2 i=aE (ba sel H2++L) k∧(aE (ba sel H2++L) k≠some (0,0)→c2.β i=c'.β k):=fun k i h=>by
  refine⟨(hpl k i h).1.symm,(hsh k i h).symm,fun hne=> ?_⟩
  rw [hsh k i h,hs2] at hne
  obtain⟨q1,q2⟩:=(hpl k i h).2 hne
  exact q2.trans q1.symm
 refine⟨c2,?_,hext⟩
 exact
  {below:=hst'.below
   xk:=
    {keep:=fun g o h=>by
      obtain⟨h1,h2⟩:=hst.xk.keep g o h
      exact⟨(keepf g (fun⟨i,_,hi⟩=>h2 i hi) (Array.getElem?_eq_some_iff.1 h1).1).trans h1,h2⟩
     siz:=fun g m hm=>by
      obtain⟨cur,h1,h2⟩:=hst.xk.siz g m hm
      obtain⟨cur',h3,h4⟩:=sizf g cur m.2 h1
      exact⟨cur',h3,h4.trans h2⟩
     cnt:=hst.xk.cnt
     gh:=hst.xk.gh
     l:=hst.xk.l
     dis:=fun g hg hX=>hg.elim (fun h=>hst.xk.dis g h hX) fun h=>hst'.xk.dis g h (.inl hX)
     xb:=fun g hX=>⟨ltf g (hst.xk.xb g hX).1,(hst.xk.xb g hX).2⟩
     mks:=hst.xk.mks
     gi:=hst.xk.gi}
   size:=hst'.size
   blk:=fun i=>by
    by_cases hi:i∈sel
    ·obtain⟨k,hk⟩:=List.mem_iff_getElem?.1 hi
     obtain⟨g,hg,hc⟩:=g7 hst (dZ hok hi) (hgi i hi)
     have hbk:=hst'.blk k
     rw [hgb k i hk] at hbk
     have hr:c'.ρ k=some g:=(hpl k i hk).1.trans hg
     have hsi:=hs2 i
     have ho:=dZ hok2 hi
     cases hb2:aD H2 i with
     | cells cs=>
      rw [hb2] at hbk ho
      have hb:c.β i=0:=by
       rcases hc with⟨_,_,_,_,hb⟩|⟨fr,t,es,hc⟩
       ·exact hb
       ·unfold aE at hsi;rw [hb2,hc] at hsi;simp at hsi
      simp only [mC,Bool.and_eq_true] at ho
      rcases hbk with⟨g',e,cur,q1,q2,q3,q4⟩|⟨_,q,_⟩
      ·rw [hr] at q1;cases q1
       rw [de] at q3 q4
       refine .inl ⟨g,e,cur,hg,q2,⟨hb,q3.2⟩,fun j hj=> ?_⟩
       obtain⟨v,q5,q6,q7⟩:=q4 j hj
       rw [kZ] at q7
       exact⟨v,by rw [q3.1] at q5;rw [show c2.β i=0 from hb];exact q5,q6,VRel.unren (c2:=c2) (fun _ h=>Or.inr h) (fun _ h=>Or.inr h) hun _ (V.seenL_gets ho.2 j) q7⟩
      ·rw [hr] at q;cases q
     |imap fr t es=>
      rw [hb2] at hbk
      obtain⟨g',ents,clock,h1,h2,h3,h4,h5,h6⟩:=hbk
      rw [hr] at h1;cases h1
      refine⟨g,ents,clock,hg,h2,h3,h4,h5,fun j n x hj=> ?_⟩
      obtain⟨v,b,h7,h8,h9⟩:=h6 j n x hj
      exact⟨v,b,h7,h8,aJ.ext (M:=c'.im fr) (by cases fr;exact fun _ h=> .inr h;exact fun _ h=> .inr h) (fun _ _=>rfl) _ _ _ h9⟩
     |dead=>rw [hb2] at ho;cases ho
     |row _ _ _=>rw [hb2] at ho;cases ho
     |mit _ _ _ _=>rw [hb2] at ho;cases ho
    ·rw [ho2 i hi]
     refine ig.keep hext (fun _=>rfl) (fun _=>rfl) (fun g hg=>keepf g (fun⟨j,h1,h2⟩=>hi ?_) (hst.own i g hg).2.1) (hst.blk i)
     rw [hst.inj i j g hg h2];exact h1
   inj:=hst.inj
   own:=fun i g hi=>by
    obtain⟨h1,h2,h3,h4⟩:=hst.own i g hi
    refine⟨h1,ltf g h2,fun hm=>hm.elim h3 fun hm=> ?_,by rw [hl2];exact h4⟩
    rcases Classical.em (sd g) with h5|h5
    ·obtain⟨k,j,_,_,h⟩:=hsd g h5
     exact(hst'.own k g h).2.2.1 hm
    ·exact hst'.xk.dis g hm (.inr ⟨⟨i,hi⟩,h5⟩)
   imm:=fun g hg=>hg.elim (fun h=>ltf g (hst.imm g h)) (hst'.imm g)
   sub:=fun g hg=>hg.elim (fun h=>⟨.inl (hst.sub g h).1,(hst.sub g h).2⟩) fun h=>⟨.inr (hst'.sub g h).1,(hst'.sub g h).2⟩
   glob:=fun g y hy=>(hst.glob g y hy).ext hext}

theorem Od (hk:Known P E) (hyl:E.yl=none) (hrf:E.rf=false) {f:FuncId} {fn:Func} (hf:P.funcs[f]? =some fn) {vs:List Value} {args:List V} (hst:St E.glob base w0 c H w) (hv:VRels c H w args vs)
  {sel:List Nat} (hnd:sel.Nodup) (hgi:∀i,i∈sel→∃g,c.ρ i=some g) (hok:dD sel H sel=true)
  {H2:List Blk} (hl2:H2.length=H.length) (ho2:∀i,i∉sel→aD H2 i=aD H i) (hs2:∀i,aE H2 i=aE H i) (hg2:uS 0 (bu sel H2 sel)=uS 0 (bu sel H sel)) (hok2:dD sel H2 sel=true) {R:V→Prop}
  (hb:body E fn (renL sel args) (ba sel H) (fun v H'=>(v.bare=true∧R v)∧∃L,H'=ba sel H2++L)):
  Calls P f vs.toArray w fun e w'=>∃x v c',e= .returned v∧R x∧VRel c' H2 w' x v∧St E.glob base w0 c' H2 w'∧Ext c H w c' H2 w':=by
 have h0:=Bc hk hst hnd hgi hok hk.noref
 have hv0:VRels (Cx.opn {c.ren sel with gi:=none} (fun _=>False) (mN w0 c H w sel).gh (bu sel H sel).length) (ba sel H) w (renL sel args) vs:=
  (hv.ren fun k i hk=>cD hk).wk (c:=c.ren sel) (H:=bu sel H sel) (c':=Cx.opn {c.ren sel with gi:=none} (fun _=>False) (mN w0 c H w sel).gh (bu sel H sel).length) (fun _ h=>Or.inl h) (fun _ h=>h) rfl rfl fun id s hs=>⟨bj hs,rfl,rfl⟩
 refine(xe hk hyl hrf (fun _ _ _=>trivial) (fun _ h=>h) hf h0 hv0 hb).mono ?_
 rintro e w' ⟨x,v,H',c',rfl,⟨⟨hp,hR⟩,L,rfl⟩,hx,hst'⟩
 obtain⟨c2,h1,h2⟩:=Jp hst hnd hgi hok hl2 ho2 hs2 hg2 hok2 hst'
 exact⟨x,v,c2,rfl,hR,hx.bare hp,h1,h2⟩
end

def mgL:List V→List V→List V
 |c::cs,d::ds=>(bif d.bare then d else c)::mgL cs ds
 |cs,_=>cs
def mgB:Blk→Blk→Blk
 |.cells cs,.cells ds=> .cells (mgL cs ds)
 |.imap _ _ _,.imap fr t es=> .imap fr t es
 |b,_=>b
def ji:List Blk→List Nat→List Blk→List Blk
 |H,i::l,b::bs=>ji (aH H i (mgB (aD H i) b)) l bs
 |H,_,_=>H
theorem qg:∀cs ds:List V,(mgL cs ds).length=cs.length
 |[], []=>rfl
 |[],_::_=>rfl
 |_::_, []=>rfl
 |_::cs,_::ds=>by simp only [mgL,List.length_cons,qg cs ds]
theorem oS:∀(l:List Nat) (bs:List Blk) (H:List Blk),(ji H l bs).length=H.length
 |[],_,_=>by unfold ji;rfl
 |_::_, [],_=>by unfold ji;rfl
 |i::l,b::bs,H=>by rw [ji,oS l bs,aM]
theorem sr:∀(l:List Nat) (bs:List Blk) (H:List Blk) (j:Nat),j∉l→aD (ji H l bs) j=aD H j
 |[],_,_,_,_=>by unfold ji;rfl
 |_::_, [],_,_,_=>by unfold ji;rfl
 |i::l,b::bs,H,j,h=>by
  rw [ji,sr l bs _ j (fun g=>h (List.mem_cons_of_mem _ g)),aG,if_neg (fun g:j=i∧i<H.length=>h (by rw [g.1];exact List.mem_cons_self))]
theorem Cy {H H2:List Blk} {i:Nat} {b:Blk} (h:aD H2 i=mgB (aD H i) b):aE H2 i=aE H i:=by
 unfold aE
 rw [h]
 cases aD H i<;>cases b<;>simp [mgB,qg]
theorem qB:∀(l:List Nat) (bs:List Blk) (H:List Blk) (j:Nat),aE (ji H l bs) j=aE H j
 |[],_,_,_=>by unfold ji;rfl
 |_::_, [],_,_=>by unfold ji;rfl
 |i::l,b::bs,H,j=>by
  rw [ji,qB l bs]
  by_cases hj:j=i∧i<H.length
  ·exact Cy (b:=b) (by rw [aG,if_pos hj,hj.1])
  ·unfold aE;rw [aG,if_neg hj]

def Yr (sel:List Nat) (H H1:List Blk) (v:V) (R:V→List Blk→Prop):Prop:=
 (bu sel (ji H sel H1) sel=H1∧dD sel (ji H sel H1) sel=true∧uS 0 H1=uS 0 (bu sel H sel))∧nrm v (ji H sel H1) R
def Jq (spec:List V→List Blk→Option (Prop×V×List Blk)):bI:=fun args H R=>
 match spec (renL (bW args H) args) (bu (bW args H) H (bW args H)) with
 |some (p,v,H1)=>(nQ (bW args H)=true∧dD (bW args H) H (bW args H)=true)∧p∧Yr (bW args H) H H1 v R
 |none=>False
theorem Known.consE {z:List Nat} {P:Program} {tys:List (Nat×Ty)} {G:List (Nat×V)} {l:List (Nat×bI)} {q:List (Nat×gU)} (h:Known P (En l tys G q z)) {f:Nat} {c:bI} (hf:Nat.blt f 100000=true) (hc:mz P G f c):Known P (En ((f,c)::l) tys G q ((6100000+f)::z)) where
 glob:=h.glob
 noref:=h.noref
 env:= .cons hc ⟨h.env.con,h.env.seq,h.env.ty,h.env.eq⟩
 det:=h.det.imp (fun he=>by
  show br ((6100000+f)::z) 6000000=true
  unfold br;rw [show br z 6000000=true from he,Bool.or_true]) fun hd k c' hc'=>by
  have hd:∀k c,lk (bif lQ z then x9 z l else l) k=some c→Det c:=hd
  have hfl:f<100000:=Nat.le_of_ble_eq_true hf
  have he:lQ ((6100000+f)::z)=true:=by
   unfold lQ
   rw [Nat.ble_eq_true_of_le (show 6100000≤6100000+f by omega),show Nat.blt (6100000+f) 6200000=true from Nat.ble_eq_true_of_le (show 6100000+f+1≤6200000 by omega)];rfl
  have h1:lk (bif lQ ((6100000+f)::z) then x9 ((6100000+f)::z) ((f,c)::l) else(f,c)::l) k=some c':=hc'
  rw [he,cond_true] at h1
  unfold x9 at h1
  rw [show br ((6100000+f)::z) (6100000+f)=true by unfold br;rw [Nat.beq_refl];rfl,cond_true] at h1
  obtain⟨h2,h3⟩:=ug h1
  unfold br at h3
  rw [Bool.or_eq_false_iff] at h3
  refine hd k c' ?_
  cases hz:lQ z with
  |true=>rw [cond_true];exact zP h2 h3.2
  |false=>exact h2
 mixed:=h.mixed
theorem Known.addEdit {z:List Nat} {P:Program} {tys:List (Nat×Ty)} {G:List (Nat×V)} {l:List (Nat×bI)} {q:List (Nat×gU)} (h:Known P (En l tys G q z)) {f:Nat} {fn:Func} (hf:P.funcs[f]? =some fn) (hent:∀args w,(callFunc f args).run P w= .ok (.enter f args) w)
  {spec:List V→List Blk→Option (Prop×V×List Blk)}
  (hlt:Nat.blt f 100000=true) (hb:∀xs H p v H1,spec xs H=some (p,v,H1)→p→body (En l tys G q z).inR fn xs (jx H) (fun v' H'=>(v'.bare=true∧v'=v)∧∃L,H'=jx H1++L)):
  Known P (En ((f,Jq spec)::l) tys G q ((6100000+f)::z)):=by
 refine h.consE hlt ⟨hent,fun base w0 c H w args vs hst hv R hc=> ?_⟩
 unfold Jq at hc
 split at hc<;>try exact hc.elim
 rename_i p v H1 hsp
 obtain⟨⟨hnd,hok⟩,hp,⟨e1,e2,e3⟩,hc⟩:=hc
 have hc:=(jq _ _ _).1 hc
 refine(Od h.inR rfl rfl hf hst hv (it _ hnd) (fun i hi=>lA (E:=En l tys G q z) hst hv hi) hok (H2:=ji H (bW args H) H1) (oS ..) (fun i hi=>sr _ _ _ _ hi) (qB _ _ _) (by rw [e1];exact e3) e2 (R:=fun v'=>v'=v) (by unfold ba;rw [e1];exact hb _ _ p v H1 hsp hp)).mono ?_
 rintro e w' ⟨x,u,c',rfl,rfl,h1,h2,h3⟩
 exact⟨_,u,_,c',rfl,hc,h1,h2,h3⟩
end
open Go Go.RowKit Go.MapKept Go.WideShapes
open Go Go.RowKit Go.WideShapes
section
def Deep (P:Program):Ty→TypeId⊕(List Field×Nat)→Prop
 |.u8,.inl T=>P.underlying T=some (.int .u8)
 |.int k,.inl T=>P.underlying T=some (.int k)
 |.bool,.inl T=>P.underlying T=some .bool
 |.str,.inl T=>P.underlying T=some .string
 |.sl t,.inl T=>∃e,P.underlying T=some (.slice e)∧P.cellsOf e=t.size∧0<t.size∧Deep P t (.inl e)
 |.arr n t,.inl T=>∃e,P.underlying T=some (.array n e)∧P.cellsOf T=n*t.size∧P.cellsOf e=t.size∧Deep P t (.inl e)
 |.cons t ts,.inl T=>∃fs f fs',P.underlying T=some (.struct fs)∧fs.toList=f::fs'∧P.cellsOf T=t.size+ts.size∧f.offset=0∧P.cellsOf f.type=t.size∧Deep P t (.inl f.type)∧Deep P ts (.inr (fs',t.size))
 |.cons t ts,.inr (f::fs,o)=>f.offset=o∧P.cellsOf f.type=t.size∧Deep P t (.inl f.type)∧Deep P ts (.inr (fs,o+t.size))
 |.nil,.inr ([],_)=>True
 |_,_=>False

def wt:(t:Ty)→t.D→Nat
 |.str,s=>s.length+1
 |.sl t,xs=>(xs.map (wt t)).sum+1
 |.cons t ts,x=>wt t x.1+wt ts x.2
 |.arr _ t,xs=>(xs.map (wt t)).sum
 |.nil,_=>0
 |_,_=>1

def V9:(t:Ty)→t.D→Prop
 |.int k,n=>k.min≤n∧n≤k.max
 |.sl t,xs=>∀x∈(xs:List t.D),V9 t x
 |.arr n t,xs=>(xs:List t.D).length=n∧∀x∈(xs:List t.D),V9 t x
 |.cons t ts,x=>V9 t x.1∧V9 ts x.2
 |_,_=>True
theorem aJ.wf {w:World} {M:Nat→Prop}:∀(t:Ty) (x:t.D) (cs:List Value),aJ w M t x cs→V9 t x
 |.u8,_,_,_=>trivial
 |.int _,_,_,h=>h.2
 |.bool,_,_,_=>trivial
 |.str,_,_,_=>trivial
 |.nil,_,_,_=>trivial
 |.fnT,_,_,_=>trivial
 |.mapT _,_,_,_=>trivial
 |.sl t,xs,cs,h=>fun x hx=>by
  obtain⟨a,cap,_,_,_,h4⟩:=h
  obtain⟨i,hi,rfl⟩:=List.mem_iff_getElem.1 hx
  obtain⟨g,o,_,_,h5⟩:=h4 (List.ne_nil_of_mem hx)
  obtain⟨es,he,_⟩:=h5 i _ (List.getElem?_eq_getElem hi)
  exact aJ.wf t _ es he
 |.arr n t,xs,cs,h=>⟨h.1,fun x hx=>by
  obtain⟨h0,ess,h1,h2,h3⟩:=h
  obtain⟨i,hi,rfl⟩:=List.mem_iff_getElem.1 hx
  exact aJ.wf t _ _ (h3 i _ _ (List.getElem?_eq_getElem hi) (List.getElem?_eq_getElem (by omega)))⟩
 |.cons t ts,x,cs,h=>by
  obtain⟨c1,c2,_,h1,h2⟩:=h
  exact⟨aJ.wf t _ _ h1,aJ.wf ts _ _ h2⟩
structure Bulk {H:Type} (bk:DataW H→Nat):Prop where
 one:∀d,1≤bk d
 str:∀b,b.length+1≤bk (.lit (.string b))
 sl:∀es sp,(es.map bk).sum+1≤bk (.slice es sp)
 agg:∀ps,(ps.map bk).sum≤bk (.agg ps)

theorem nK {α:Type} {Q:Nat→α→Prop}:∀{n:Nat},(∀i,i<n→∃x,Q i x)→∃xs:List α,xs.length=n∧∀i x,xs[i]? =some x→Q i x
 |0,_=>⟨[],rfl,fun i x h=>by simp at h⟩
 | n+1,h=>by
  obtain⟨xs,h1,h2⟩:=nK (Q:=fun i=>Q i) (n:=n) fun i hi=>h i (by omega)
  obtain⟨y,hy⟩:=h n (by omega)
  refine⟨xs++ [y],by simp [h1],fun i x hx=> ?_⟩
  rcases Nat.lt_or_ge i n with g|g
  ·rw [List.getElem?_append_left (by omega)] at hx
   exact h2 i x hx
  ·by_cases e:i=n
   ·subst e
    rw [List.getElem?_append_right (by omega),h1,Nat.sub_self] at hx
    simp at hx
    subst hx
    exact hy
   ·rw [List.getElem?_eq_none (by simp [h1];omega)] at hx
    cases hx
theorem yM {α β:Type} (f:α→Nat) (g:β→Nat):∀(xs:List α) (ys:List β),xs.length=ys.length→(∀(i:Nat) (x:α) (y:β),xs[i]? =some x→ys[i]? =some y→f x≤g y)→(xs.map f).sum≤(ys.map g).sum
 |[], [],_,_=>Nat.le_refl _
 |x::xs,y::ys,hl,h=>by
  have h0:=h 0 x y rfl rfl
  have:=yM f g xs ys (by simpa using hl) fun i a b ha hb=>h (i+1) a b ha hb
  simp only [List.map_cons,List.sum_cons]
  omega
 |[],_::_,hl,_=>by simp at hl
 |_::_, [],hl,_=>by simp at hl

section
variable {H:Type} {enc:TypeId×Value→H} {P:Program} {w:World} {sp:Nat→Bool} {held:Bool} {bk:DataW H→Nat}

def Z4 (w:World) (g:Nat):Prop:=g<w.heap.size

theorem Ka {a:Addr} {n:Nat} {es:List Value} (h:w.cells? 0 a n=some es):es.length=n∧∀j v,es[j]? =some v→w.cell? (a.add j)=some v:=by
 obtain⟨_,hl,hc⟩:=World.cells?_some h
 refine⟨hl,fun j v hj=> ?_⟩
 have hjn:j<n:=by
  rcases Nat.lt_or_ge j es.length with g|g
  ·omega
  ·rw [List.getElem?_eq_none g] at hj;cases hj
 have:=hc j hjn
 rw [hj] at this
 exact this
theorem xo {a:Addr} (h:a.spot=none) (n:Nat):a.add n=⟨a.block,a.off+n,none⟩:=by
 unfold Addr.add
 split
 ·rename_i h0
  subst h0
  cases a;simp at h;subst h;rfl
 ·rfl
theorem add_zero (a:Addr):a.add 0=a:=by simp [Addr.add]
theorem sM {a:Addr} {v:Value} (h:w.cell? a=some v):a.spot=none∧a.block<w.heap.size:=by
 unfold World.cell? at h
 split at h
 ·rename_i c _ _ hh
  cases hs:a.spot with
  |none=>exact⟨rfl,(Array.getElem?_eq_some_iff.1 hh).1⟩
  |some s=>rw [hs] at h;simp at h
 ·cases h

def zi (enc:TypeId×Value→H) (P:Program) (w:World) (sp:Nat→Bool) (held:Bool) (n:Nat) (fs:List Field) (cs:List Value) (xs:List (DataW H×List MemPlace)):Prop:=
 xs.length=fs.length∧∀(i:Nat) (f:Field),fs[i]? =some f→DataW.trod enc P w 0 sp held n f.type ((cs.drop f.offset).take (P.cellsOf f.type))=xs[i]?

theorem il (hb:Bulk bk):∀(t:Ty) (s:TypeId⊕(List Field×Nat)),Deep P t s→(match s with
  |.inl T=>∀fuel cs d ps,DataW.trod enc P w 0 sp held fuel T cs=some (d,ps)→∃x:t.D,aJ w (Z4 w) t x cs∧wt t x≤bk d
  |.inr (fs,o)=>∀n cs xs,zi enc P w sp held n fs cs xs→cs.length=o+t.size→∃x:t.D,aJ w (Z4 w) t x (cs.drop o)∧wt t x≤(xs.map fun y=>bk y.1).sum)
 | .u8,.inl T,h=>fun fuel cs d ps hd=>by
  obtain⟨n,rfl,hx,hw⟩:=DataW.trod_int h hd
  have hn:0≤n∧n≤255:=by
   simp [Lit.wf,IntKind.min,IntKind.max,IntKind.signed,IntKind.bits] at hw
   omega
  refine⟨UInt8.ofNat n.toNat,?_,hb.one _⟩
  show [Value.int .u8 n]= [.int .u8 ((UInt8.ofNat n.toNat).toNat:Int)]
  rw [UInt8.toNat_ofNat_of_lt' (by show n.toNat<256;omega)]
  congr 2
  omega
 |.int k,.inl T,h=>fun fuel cs d ps hd=>by
  obtain⟨n,rfl,hx,hw⟩:=DataW.trod_int h hd
  refine⟨n,⟨rfl,?_⟩,hb.one _⟩
  simpa [Lit.wf] using hw
 |.bool,.inl T,h=>fun fuel cs d ps hd=>by
  obtain⟨b,rfl,hx⟩:=DataW.trod_bool h hd
  exact⟨b,rfl,hb.one _⟩
 |.str,.inl T,h=>fun fuel cs d ps hd=>by
  obtain⟨s,rfl,hx,hs⟩:=DataW.trod_string h hd
  obtain⟨rfl,rfl⟩:=Prod.mk.inj hx
  exact⟨s.data.toList,⟨rfl,hs⟩,hb.str _⟩
 | .sl t,.inl T,h=>fun fuel cs d ps hd=>by
  obtain⟨e,hu,hce,hpos,hdeep⟩:=h
  rcases DataW.trod_slice hu hd with⟨rfl,hx⟩|⟨a,len,cap,elems,rest,n,rfl,rfl,hx,_,h2,h3,h4,h5,_⟩
  ·exact⟨[],⟨none,0,rfl,Nat.le_refl _,Nat.zero_le _,fun h=>absurd rfl h⟩,hb.one _⟩
  ·obtain⟨rfl,_⟩:=Prod.mk.inj hx
   have key:∀i,i<len→∃x:t.D,(∃es,aJ w (Z4 w) t x es∧es.length=t.size∧(∀j v,es[j]? =some v→w.cell? ((a.add (i*t.size)).add j)=some v))∧∃y,elems[i]? =some y∧wt t x≤bk y.1:=fun i hi=>by
    have h6:=h5 i hi
    obtain⟨y,hy⟩:∃y,elems[i]? =some y:=⟨_,List.getElem?_eq_getElem (by omega)⟩
    rw [hy,Option.bind_eq_some_iff] at h6
    obtain⟨es,he,ht⟩:=h6
    obtain⟨x,h7,h8⟩:=il hb t (.inl e) hdeep n es y.1 y.2 ht
    rw [hce] at he
    obtain⟨hl,hc⟩:=Ka he
    exact⟨x,⟨es,h7,hl,fun j v hj=>hc j v hj⟩,y,hy,h8⟩
   obtain⟨xs,hl,hxs⟩:=nK key
   refine⟨xs,⟨some a,cap,by rw [hl],by omega,h3,fun hne=> ?_⟩,?_⟩
   ·have h0:0<xs.length:=List.length_pos_iff.2 hne
    obtain⟨⟨es,_,hel,hcell⟩,_⟩:=hxs 0 xs[0] (List.getElem?_eq_getElem h0)
    have hs:=hcell 0 es[0] (List.getElem?_eq_getElem (by omega))
    rw [Nat.zero_mul,add_zero,add_zero] at hs
    have hs:=sM hs
    refine⟨a.block,a.off,?_,hs.2,fun i x hi=> ?_⟩
    ·have hsp:a.spot=none:=hs.1
     cases a;simp at hsp;subst hsp;rfl
    ·obtain⟨⟨es,h1,_,hcell⟩,_⟩:=hxs i x hi
     have hsp:a.spot=none:=hs.1
     exact⟨es,h1,fun j v hj=>by have:=hcell j v hj;rwa [xo hsp,xo rfl] at this⟩
   ·show(xs.map (wt t)).sum+1≤_
    have:=yM (wt t) (fun y:DataW H×List MemPlace=>bk y.1) xs elems (by omega) fun i x y hx hy=>by
     obtain⟨_,y',hy',hw⟩:=hxs i x hx
     rw [hy] at hy';cases hy';exact hw
    have h6:=hb.sl (elems.map (·.1)) (rest.map (·.1))
    rw [List.map_map] at h6
    exact Nat.le_trans (Nat.succ_le_succ this) h6
 | .arr n t,.inl T,h=>fun fuel cs d ps hd=>by
  obtain⟨e,hu,hcT,hce,hdeep⟩:=h
  obtain⟨ys,m,rfl,hx,hcl,hyl,hel⟩:=DataW.trod_array hu hd
  obtain⟨rfl,_⟩:=Prod.mk.inj hx
  have key:∀i,i<n→∃x:t.D,aJ w (Z4 w) t x ((cs.drop (i*t.size)).take t.size)∧∃y,ys[i]? =some y∧wt t x≤bk y.1:=fun i hi=>by
   have h6:=hel i hi
   obtain⟨y,hy⟩:∃y,ys[i]? =some y:=⟨_,List.getElem?_eq_getElem (by omega)⟩
   rw [hy,hce] at h6
   obtain⟨x,h7,h8⟩:=il hb t (.inl e) hdeep m _ y.1 y.2 h6
   exact⟨x,h7,y,hy,h8⟩
  obtain⟨xs,hl,hxs⟩:=nK key
  refine⟨xs,⟨hl,(List.range n).map fun i=>(cs.drop (i*t.size)).take t.size,?_,by simp,fun i x es hi he=> ?_⟩,?_⟩
  ·have hcut:∀(n:Nat) (cs:List Value),cs.length=n*t.size→cs=((List.range n).map fun i=>(cs.drop (i*t.size)).take t.size).flatten:=fun n=>by
    induction n with
    |zero=>intro cs h;simpa using h
    | succ n ih=>
     intro cs h
     rw [Nat.succ_mul] at h
     have h1:=ih (cs.drop t.size) (by rw [List.length_drop];omega)
     rw [List.range_succ_eq_map,List.map_cons,List.flatten_cons,List.map_map]
     have e:((fun i=>List.take t.size (List.drop (i*t.size) cs))∘Nat.succ)=fun i=>List.take t.size (List.drop (i*t.size) (cs.drop t.size)):=by
      funext i
      simp only [Function.comp,List.drop_drop]
      congr 2
      rw [Nat.succ_mul,Nat.add_comm]
     rw [e,←h1]
     simp
   exact hcut n cs (by rw [hcl,hcT])
  ·rw [List.getElem?_map] at he
   have hin:i<n:=by
    rcases Nat.lt_or_ge i xs.length with g|g
    ·omega
    ·rw [List.getElem?_eq_none g] at hi;cases hi
   rw [List.getElem?_range hin] at he
   simp only [Option.map_some,Option.some.injEq] at he
   subst he
   exact(hxs i x hi).1
  ·show(xs.map (wt t)).sum≤_
   have:=yM (wt t) (fun y:DataW H×List MemPlace=>bk y.1) xs ys (by omega) fun i x y hx hy=>by
    obtain⟨_,y',hy',hw⟩:=hxs i x hx
    rw [hy] at hy';cases hy';exact hw
   have h6:=hb.agg (ys.map (·.1))
   rw [List.map_map] at h6
   exact Nat.le_trans this h6
 | .cons t ts,.inl T,h=>fun fuel cs d ps hd=>by
  obtain⟨fs,f,fs',hu,hfs,hcT,hf0,hcf,hd1,hd2⟩:=h
  obtain⟨ys,m,rfl,hx,hcl,hyl,hel⟩:=DataW.trod_struct hu hd
  obtain⟨rfl,_⟩:=Prod.mk.inj hx
  have hread:∀(i:Nat) (g:Field),(f::fs')[i]? =some g→DataW.trod enc P w 0 sp held m g.type ((cs.drop g.offset).take (P.cellsOf g.type))=ys[i]? :=fun i g hg=>by
   rw [←hfs] at hg
   exact hel i g (by simpa using hg)
  cases ys with
  |nil=>
   have:fs.size=(f::fs').length:=by rw [←hfs];simp
   simp [this] at hyl
  | cons y ys=>
   have h0:=hread 0 f rfl
   rw [hf0,hcf] at h0
   obtain⟨x,hx1,hx2⟩:=il hb t (.inl f.type) hd1 m _ y.1 y.2 h0
   obtain⟨x',hy1,hy2⟩:=il hb ts (.inr (fs',t.size)) hd2 m cs ys ⟨by
    have:fs.size=(f::fs').length:=by rw [←hfs];simp
    rw [this] at hyl;simpa using hyl,fun i g hg=>hread (i+1) g hg⟩ (by rw [hcl,hcT])
   refine⟨(x,x'),⟨cs.take t.size,cs.drop t.size,(List.take_append_drop _ _).symm,hx1,hy1⟩,?_⟩
   show wt t x+wt ts x'≤_
   have h6:=hb.agg ((y::ys).map (·.1))
   rw [List.map_map] at h6
   refine Nat.le_trans ?_ h6
   simp only [List.map_cons,List.sum_cons,Function.comp]
   exact Nat.add_le_add hx2 hy2
 | .cons t ts,.inr (f::fs,o),h=>fun n cs xs hr hl=>by
  obtain⟨hf0,hcf,hd1,hd2⟩:=h
  obtain⟨h1,h2⟩:=hr
  cases xs with
  |nil=>simp at h1
  | cons y ys=>
   have h0:=h2 0 f rfl
   rw [hf0,hcf] at h0
   obtain⟨x,hx1,hx2⟩:=il hb t (.inl f.type) hd1 n _ y.1 y.2 h0
   obtain⟨x',hy1,hy2⟩:=il hb ts (.inr (fs,o+t.size)) hd2 n cs ys ⟨by simpa using h1,fun i g hg=>h2 (i+1) g hg⟩ (by rw [hl];show o+(t.size+ts.size)=_;omega)
   refine⟨(x,x'),⟨(cs.drop o).take t.size,(cs.drop o).drop t.size,(List.take_append_drop _ _).symm,hx1,?_⟩,?_⟩
   ·rw [List.drop_drop];exact hy1
   ·show wt t x+wt ts x'≤_
    simp only [List.map_cons,List.sum_cons]
    exact Nat.add_le_add hx2 hy2
 |.nil,.inr ([],o),h=>fun n cs xs hr hl=>by
  refine⟨(),?_,Nat.zero_le _⟩
  show cs.drop o= []
  exact List.drop_eq_nil_of_le (by rw [hl];exact Nat.le_refl _)
 |.cons _ _,.inr ([],_),h=>h.elim
 |.nil,.inl _,h=>h.elim
 |.nil,.inr (_::_,_),h=>h.elim
 |.u8,.inr _,h=>h.elim
 |.int _,.inr _,h=>h.elim
 |.bool,.inr _,h=>h.elim
 |.str,.inr _,h=>h.elim
 |.sl _,.inr _,h=>h.elim
 |.arr _ _,.inr _,h=>h.elim

abbrev c0 (w:World):Cx:=Cx.of (Z4 w) ⟨[],none,0⟩
theorem st0 {G:List (Nat×V)} (hg:∀g x,lk G g=some x→VRel (c0 w) [] w x (.pointer (some ⟨g,0,none⟩))):St G w.heap.size (W0.all w) (c0 w) [] w where
 below:= .refl _ _
 xk:=
  {keep:=fun g o h=>by cases h
   siz:=fun g n h=>by cases h
   cnt:=trivial
   gh:=rfl
   l:=rfl
   dis:=fun _ _ h=>h
   xb:=fun _ h=>h.elim
   mks:=fun _ h=>h.elim
   gi:=fun _=>rfl}
 size:=Nat.le_refl _
 blk _:=trivial
 inj _ _ _ h:=by cases h
 own _ _ h:=by cases h
 imm _ h:=h
 sub _ h:=h.elim
 glob:=hg

theorem nv (hb:Bulk bk) {t:Ty} {T:TypeId} {v:Value} {d:DataW H} {ps:List MemPlace} {r:Reach} {b:Nat} (hd:Deep P t (.inl T)) (hval:Value.okWide P w r b T v) (h:DataW.Trod enc P w 0 sp held T v d ps):
  ∃x:t.D,VRel (c0 w) [] w (dV t x) v∧wt t x≤bk d∧V9 t x:=by
 obtain⟨fuel,hf⟩:=h
 obtain⟨x,hx,hw⟩:=il hb t (.inl T) hd fuel _ d ps hf
 refine⟨x,?_,hw,aJ.wf _ _ _ hx⟩
 cases t with
 |u8=>
  obtain⟨n,rfl⟩:=okWide_int hd hval
  have hx: [Value.int .u8 n]= [.int .u8 (x.toNat:Int)]:=hx
  simp only [List.cons.injEq,Value.int.injEq,true_and,and_true] at hx
  subst hx
  exact .u8 x
 |int k=>
  obtain⟨n,rfl⟩:=okWide_int hd hval
  obtain⟨hx,h1,h2⟩:=hx
  have hx: [Value.int k n]= [.int k x]:=hx
  simp only [List.cons.injEq,Value.int.injEq,true_and,and_true] at hx
  subst hx
  exact .int k _ h1 h2
 |bool=>
  obtain⟨n,rfl⟩:=okWide_bool hd hval
  have hx: [Value.bool n]= [.bool x]:=hx
  simp only [List.cons.injEq,Value.bool.injEq,and_true] at hx
  subst hx
  exact .b _ _ Iff.rfl
 |str=>
  obtain⟨s,rfl⟩:=okWide_string hd hval
  obtain⟨hx,h1⟩:=hx
  have hx: [Value.string s]= [.string ⟨x.toArray⟩]:=hx
  simp only [List.cons.injEq,Value.string.injEq,and_true] at hx
  subst hx
  exact .str x h1
 |sl t=>
  obtain⟨e,hu,_⟩:=hd
  obtain⟨a,len,cap,rfl⟩:=okWide_slice hu hval
  exact .sl false t x _ hx
 |nil=>exact hd.elim
 |fnT=>exact hd.elim
 |mapT t=>exact hd.elim
 |arr n t=>
  obtain⟨e,hu,_⟩:=hd
  unfold Value.okWide at hval
  rw [hu] at hval
  obtain⟨cs,rfl,hsz,_⟩:=hval
  have:=VRel.dat (c:=c0 w) (H:= []) (w:=w) false (.arr n t) x _ hx
  exact id (α:=VRel (c0 w) [] w (.dat false (.arr n t) x) (.agg cs)) (by simpa [Value.cells] using this)
 |cons t ts=>
  obtain⟨fs,f,fs',hu,_⟩:=hd
  obtain⟨cs,rfl,hsz⟩:=okWide_struct hu hval
  have hl:=aJ.length _ _ _ hx
  have:=df (c:=c0 w) (H:= []) (fr:=false) hx (Ty.cons t ts).size 0 (by rw [Nat.zero_add,hl];exact Nat.le_refl _)
  rw [List.drop_zero,List.take_of_length_le (by rw [hl];exact Nat.le_refl _)] at this
  have:=VRel.agg _ _ this
  exact id (α:=VRel (c0 w) [] w (.agg (ei false _ x 0 _)) (.agg cs)) (by simpa [Value.cells] using this)

theorem Tc {E:Env} {f:FuncId} {fn:Func} {args:List V} {vs:List Value} (hk:Known P E) (hyl:E.yl=none) (hf:P.funcs[f]? =some fn) (hV:VRels (c0 w) [] w args vs)
  (hg:∀g x,lk E.glob g=some x→VRel (c0 w) [] w x (.pointer (some ⟨g,0,none⟩))) (hb:bL E fn [.k] args (.b True) []):
  Calls P f vs.toArray w fun e w'=>e= .returned (.bool true)∧Below w.heap.size w w':=by
 refine(u5 hk hyl (fun _ _ _=>trivial) rfl (fun _ h=>h) hf (st0 hg) hV hb).mono ?_
 rintro e w' ⟨x,v,H',c',rfl,hq,hx,hst⟩
 obtain⟨c2,v2,H2,⟨_,rfl,_⟩,hst2,hx2⟩:=tf hk.glob hk.noref hst hx hq
 cases hx2 with|b _ y hy=>
 have:y=true:=hy.2 trivial
 subst this
 exact⟨rfl,hst.below⟩

theorem Ri {g:Nat} {zs:List UInt8} (hsz:g<w.heap.size) (h:∀i,i<zs.length→w.cell? ⟨g,i,none⟩=some (.int .u8 ((zs.getD i 0).toNat:Int))) {n:Nat} (hn:zs.length=n):VRel (c0 w) [] w (.rp false (.arr n .u8) zs 0) (.pointer (some ⟨g,0,none⟩)):=by
 refine .rp false (.arr n .u8) zs 0 g 0 (zs.map fun z=> .int .u8 (z.toNat:Int)) hsz ⟨hn,zs.map fun z=> [.int .u8 (z.toNat:Int)],?_,by simp [hn],fun i x es hi he=> ?_⟩ fun j v hj=> ?_
 ·clear h hn
  induction zs with
  |nil=>rfl
  |cons z zs ih=>simp only [List.map_cons,List.flatten_cons,←ih];rfl
 ·rw [List.getElem?_map,hi] at he
  simp only [Option.map_some,Option.some.injEq] at he
  exact he.symm
 ·rw [List.getElem?_map] at hj
  rcases Nat.lt_or_ge j zs.length with g1|g1
  ·rw [List.getElem?_eq_getElem g1] at hj
   simp only [Option.map_some,Option.some.injEq] at hj
   have:=h j g1
   rw [List.getD_eq_getElem?_getD,List.getElem?_eq_getElem g1,Option.getD_some,hj] at this
   rwa [Nat.zero_add]
  ·rw [List.getElem?_eq_none g1] at hj;cases hj
end
end
end Go.Proofs.YtogipicegdbhdaaDoor.Vc

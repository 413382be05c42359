/- Texts of this claim. -/
import Derived.Test.YtlmegkgkipjgbaaDoorVc9
import Derived.KernelRfl
import Derived.Carry
import Derived.OpenShut
import Derived.ChangeArms
import Derived.Lib.LaidTab
set_option linter.unusedVariables false
set_option linter.unusedSimpArgs false
namespace Go.Proofs.YtlmegkgkipjgbaaDoor.Vc
open Go Go.RowKit
section
section
variable {c c':Cx} {H H':List Blk} {w w':World}
theorem VRel.ptr_inv {id z i o:Nat} {v:Value} (h:VRel c H w (.ptr id z i o) v):∃g m,shape H id=some (m,z)∧c.ρ id=some g∧i<m∧o<z∧v= .pointer (some ⟨g,c.β id+(i*z+o),none⟩):=by
 cases h with|ptr _ _ _ _ g m h1 h2 h3 h4=>exact⟨g,m,h1,h2,h3,h4,rfl⟩
theorem VRel.tup0_inv {v:Value} (h:VRel c H w (.tup []) v):v= .tuple #[]:=by
 cases h with|tup _ vs h=>cases h;rfl
theorem VRels.cons_inv {x:V} {xs:List V} {vs:List Value} (h:VRels c H w (x::xs) vs):∃v us,vs=v::us∧VRel c H w x v∧VRels c H w xs us:=by
 cases h with|cons _ v _ us h1 h2=>exact⟨v,us,rfl,h1,h2⟩
end

section
variable {E:Env} {P:Program} {base:Nat} {w0:W0}
theorem body_ok2 (hk:Known P E) (hyl:E.yl=none) (hrf:E.rf=false) (hJ:∀k X w,w0.J k X w) (hmk0:∀g,¬w0.mks g) {f:FuncId} {fn:Func} (hf:P.funcs[f]? =some fn) {c:Cx} {H:List Blk} {w:World} {args:List V} {vs:List Value} {R:V→List Blk→Prop}
  (hst:St E.glob base w0 c H w) (hv:VRels c H w args vs) (h:body E fn args H R):
  Calls P f vs.toArray w fun e w'=>∃x v H' c',e= .returned v∧R x H'∧VRel c' H' w' x v∧St E.glob base w0 c' H' w':=by
 unfold body at h
 split at h
 ·rename_i code hb
  rw [awpR_eq] at h
  have hs:Sta E (Sf base w0) (args++List.replicate (fn.ntmps-args.length) .undef) H {tmps:=vs.toArray++Array.replicate (fn.ntmps-vs.toArray.size) undef,defers:= []} w:=
   ⟨c,base,w0,⟨rfl,rfl,rfl,rfl,rfl,rfl,fun _ _ h=>h,fun _ h=>h,fun g h=>absurd h (hmk0 g)⟩,hst,by
    simp only [Array.toList_append,Array.toList_replicate,List.size_toArray]
    rw [hv.length]
    exact hv.append (VRels.undefs undef _),Marks.nil⟩
  refine(callsIn_wide (n:=0)).1 (callsIn_of_wp_marks hf hb trivial (wpInMono ?_ (awp_ok code hk (ro:=none) (fun q hq=>by rw [hyl] at hq;cases hq) (fun hr=>by rw [hrf] at hr;cases hr) _ _ H _ w h hs)))
  have fin:∀(a:Act) (w':World),(∃σ H,resultsK E fn σ H (fun v=>R v H)∧Sta E (Sf base w0) σ H a w')→
    LeavesInM Fence.wide 0 P fn a.tmps (fun e w'=>∃x v H' c',e= .returned v∧R x H'∧VRel c' H' w' x v∧St E.glob base w0 c' H' w') a.defers .returning w':=by
   rintro a w' ⟨σ,H,hq,c',b,v,hS,hst',hσ',gs,g1,g2,g3⟩
   obtain rfl:=hS.1
   rw [g2]
   exact leave_ok hk.env hJ hmk0 hq gs v w' hS g1 g3 hst' hσ'
  intro e a w' hp
  cases e with
  |normal=>exact fin a w' hp
  |ret=>exact fin a w' hp
  |exit i=>obtain⟨_,_,hq,_⟩:=hp;exact hq.elim
  |goto l=>exact hp.elim
  |panic ch=>exact hp.elim
  |outgrown=>exact hp.elim
 ·exact h.elim

theorem Known.addT {z z':List Nat} {P:Program} {tys:List (Nat×Ty)} {G:List (Nat×V)} {l l':List (Nat×Con)} {q:List (Nat×SeqC)} (h:Known P (En l tys G q z)) (h2:Known P (En l' tys G q z')) {f:Nat} {fn:Func} (hf:P.funcs[f]? =some fn) (hent:∀args w,(callFunc f args).run P w= .ok (.enter f args) w)
  {ks:List PK} {spec:List V→Option (Prop×V×List Blk)} (ms:List Mode) (hb:∀ds p v bs,spec ds=some (p,v,bs)→p→bodyP (En l' tys G q z') fn ms ds v bs):Known P (En ((f,pureC ks spec)::l) tys G q z):=
 h.cons (holds_pure h2 rfl hf hent ms hb) (.pure _ _)
end
end
section
theorem idxIn_is:∀(l:List Nat) (n:Nat),inL l n=true→∃k,idxIn l n=some k
 |[],n,h=>by simp [inL] at h
 | x::l,n,h=>by
  unfold inL at h
  unfold idxIn
  cases hb:Nat.beq x n with
  |true=>exact⟨0,rfl⟩
  |false=>
   rw [hb,Bool.false_or] at h
   obtain⟨k,hk⟩:=idxIn_is l n h
   exact⟨k+1,by rw [hk];rfl⟩

mutual
def V.seen (sel:List Nat):V→Bool
 |.own _ _=>false
 |.slc _ _ _ _=>false
 |.yld _=>false
 |.ptr i _ _ _=>inL sel i
 |.mp _ i=>inL sel i
 |.rb x=>V.seen sel x
 |.agg cs=>V.seenL sel cs
 |.tup cs=>V.seenL sel cs
 |.fn _ cs=>V.seenL sel cs
 |_=>true
def V.seenL (sel:List Nat):List V→Bool
 |[]=>true
 |x::l=>x.seen sel&&V.seenL sel l
end
theorem V.seenL_gets {sel:List Nat}:∀{cs:List V},V.seenL sel cs=true→∀j,V.seen sel (gets cs j)=true
 |[],_,j=>by cases j<;>rfl
 |x::cs,h,0=>by simp only [V.seenL,Bool.and_eq_true] at h;exact h.1
 |x::cs,h,j+1=>by simp only [V.seenL,Bool.and_eq_true] at h;exact V.seenL_gets h.2 j

section
variable {c c2:Cx} {H H2:List Blk} {w:World} {sel:List Nat}
mutual
theorem VRel.unren (hM:∀g,c.M g→c2.M g) (hN:∀g,c.N g→c2.N g) (hs:∀k i,sel[k]? =some i→c2.ρ i=c.ρ k∧shape H2 i=shape H k∧(shape H k≠some (0,0)→c2.β i=c.β k)):
  ∀(x:V) {v:Value},x.seen sel=true→VRel c H w (renV sel x) v→VRel c2 H2 w x v
 |.undef,v,_,_=> .undef v
 |.nope,_,_,h=>by cases h;exact .nope
 |.int k n,_,_,h=>by cases h with|int _ _ h1 h2=>exact .int k n h1 h2
 |.u8 x,_,_,h=>by cases h;exact .u8 x
 |.b p,_,_,h=>by cases h with|b _ x h=>exact .b p x h
 |.bt x,_,_,h=>by cases h;exact .bt x
 |.str s,_,_,h=>by cases h with|str _ h=>exact .str s h
 |.nils,_,_,h=>by cases h;exact .nils
 |.sl fr t xs,_,_,h=>by cases h with|sl _ _ _ _ h=>exact .sl fr t xs _ (DRel.ext (M:=c.im fr) (by cases fr;exact hM;exact hN) (fun _ _=>rfl) _ _ _ h)
 |.own t i,_,hn,_=>by simp [V.seen] at hn
 |.slc t i o l,_,hn,_=>by simp [V.seen] at hn
 |.rp fr t x o,_,_,h=>by
  cases h with|rp _ _ _ _ g p es q1 q2 q3=>exact .rp fr t x o g p es (by cases fr;exact hM g q1;exact hN g q1) (DRel.ext (M:=c.im fr) (by cases fr;exact hM;exact hN) (fun _ _=>rfl) _ _ _ q2) q3
 |.ptr i z j o,_,hn,h=>by
  obtain⟨k,hk⟩:=idxIn_is sel i hn
  unfold renV at h
  rw [hk] at h
  obtain⟨h1,h2,h3⟩:=hs k i (idxIn_some _ _ _ hk)
  cases h with|ptr _ _ _ _ g m q1 q2 q3 q4=>
  rw [←h3 (by rw [q1];intro e;cases e;omega)]
  exact .ptr i z j o g m (h2.trans q1) (h1.trans q2) q3 q4
 |.agg cs,_,hn,h=>by cases h with|agg _ vs h=>exact .agg cs vs (VRels.unren hM hN hs cs hn h)
 |.tup cs,_,hn,h=>by cases h with|tup _ vs h=>exact .tup cs vs (VRels.unren hM hN hs cs hn h)
 |.fn f cs,_,hn,h=>by cases h with|fn _ _ vs h=>exact .fn f cs vs (VRels.unren hM hN hs cs hn h)
 |.nilfn,_,_,h=>by cases h;exact .nilfn
 |.yld k,_,hn,_=>by simp [V.seen] at hn
 |.dat fr t x,_,_,h=>by cases h with|dat _ _ _ es h=>exact .dat fr t x es (DRel.ext (M:=c.im fr) (by cases fr;exact hM;exact hN) (fun _ _=>rfl) _ _ _ h)
 |.rb x,_,hn,h=>by
  cases h with|rb _ v g p q1 q2 q3=>exact .rb x v g p (hM g q1) q2 (VRel.unren hM hN hs x hn q3)
 |.mp t i,_,hn,h=>by
  obtain⟨k,hk⟩:=idxIn_is sel i hn
  unfold renV at h
  rw [hk] at h
  obtain⟨h1,h2,h3⟩:=hs k i (idxIn_some _ _ _ hk)
  cases h with|mp _ _ g q1 q2=>exact .mp t i g (h2.trans q1) (h1.trans q2)
theorem VRels.unren (hM:∀g,c.M g→c2.M g) (hN:∀g,c.N g→c2.N g) (hs:∀k i,sel[k]? =some i→c2.ρ i=c.ρ k∧shape H2 i=shape H k∧(shape H k≠some (0,0)→c2.β i=c.β k)):
  ∀(xs:List V) {vs:List Value},V.seenL sel xs=true→VRels c H w (renL sel xs) vs→VRels c2 H2 w xs vs
 |[],_,_,h=>by cases h;exact .nil
 |x::xs,_,hn,h=>by
  simp only [V.seenL,Bool.and_eq_true] at hn
  cases h with|cons _ v _ vs h1 h2=>exact .cons x v xs vs (VRel.unren hM hN hs x hn.1 h1) (VRels.unren hM hN hs xs hn.2 h2)
end
end

def selOk (sel:List Nat):Blk→Bool
 |.cells cs=>Nat.blt 0 cs.length&&V.seenL sel cs
 |.imap _ _ _=>true
 |_=>false
def selOks (sel:List Nat) (H:List Blk):List Nat→Bool
 |[]=>true
 |i::l=>selOk sel (getB H i)&&selOks sel H l
def gvB (k:Nat):Blk→V
 |.imap _ t _=> .mp t k
 |_=> .ptr k 1 0 0
def gvl:Nat→List Blk→List V
 |_, []=> []
 |k,b::l=>gvB k b::gvl (k+1) l
def eyeH (H:List Blk):List Blk:=H++ [.cells (.tup []::gvl 0 H)]
def lookH (sel:List Nat) (H:List Blk):List Blk:=eyeH (selH sel H sel)
def gvV (g:Option Nat):Blk→Value
 |.imap _ _ _=> .map g
 |_=> .pointer (g.map fun g=>⟨g,0,none⟩)

theorem selOks_at {sel:List Nat} {H:List Blk}:∀{l:List Nat} {i:Nat},selOks sel H l=true→i∈l→selOk sel (getB H i)=true
 |[],_,_,h=>by cases h
 |j::l,i,h,hi=>by
  simp only [selOks,Bool.and_eq_true] at h
  rcases List.mem_cons.1 hi with rfl|hi
  ·exact h.1
  ·exact selOks_at h.2 hi
theorem gets_gvl:∀(l:List Blk) (n k:Nat),gets (gvl n l) k=match l[k]? with|some b=>gvB (n+k) b|none=> .undef
 |[],n,k=>by cases k<;>rfl
 |b::l,n,0=>rfl
 |b::l,n,k+1=>by
  show gets (gvl (n+1) l) k=_
  rw [gets_gvl l (n+1) k,show n+1+k=n+(k+1) by omega];rfl
theorem selH_at (sel:List Nat) (H:List Blk):∀(l:List Nat) (k:Nat),(selH sel H l)[k]? =(l[k]?).map fun i=>renB sel (getB H i)
 |[],k=>by simp [selH]
 |i::l,0=>rfl
 |i::l,k+1=>by
  show(selH sel H l)[k]? =_
  rw [selH_at sel H l k];simp
theorem gvB_ren (sel:List Nat) (k:Nat) (b:Blk):gvB k (renB sel b)=gvB k b:=by
 cases b<;>try rfl
 rename_i m n s l;cases m<;>rfl

section
variable {E:Env} {P:Program} {base:Nat} {w0:W0} {c:Cx} {H:List Blk} {w:World}

theorem gvs_rel {c':Cx} {H':List Blk} (sel:List Nat):∀(l:List Nat) (n:Nat),(∀k i,l[k]? =some i→VRel c' H' w (gvB (n+k) (getB H i)) (gvV (c.ρ i) (getB H i)))→VRels c' H' w (gvl n (selH sel H l)) (l.map fun i=>gvV (c.ρ i) (getB H i))
 |[],_,_=> .nil
 |i::l,n,h=> .cons _ _ _ _ (by rw [gvB_ren];exact h 0 i rfl) (gvs_rel sel l (n+1) fun k j hj=>by rw [show n+1+k=n+(k+1) by omega];exact h (k+1) j hj)

theorem sel_place (hst:St E.glob base w0 c H w) {sel:List Nat} {i:Nat} (h:selOk sel (getB H i)=true) (hgi:∃g,c.ρ i=some g):
  ∃g,c.ρ i=some g∧((∃cs,getB H i= .cells cs∧0<cs.length∧V.seenL sel cs=true∧c.β i=0)∨∃fr t es,getB H i= .imap fr t es):=by
 have hb:=hst.blk i
 cases hk:getB H i with
 |cells cs=>
  rw [hk] at hb h
  simp only [selOk,Bool.and_eq_true] at h
  rcases hb with⟨g,e,cur,h1,h2,h3,_⟩|⟨_,h1⟩
  ·exact⟨g,h1,.inl ⟨cs,rfl,blt_ok h.1,h.2,h3.1⟩⟩
  ·obtain⟨g,hg⟩:=hgi;rw [hg] at h1;cases h1.1
 |imap fr t es=>
  rw [hk] at hb
  obtain⟨g,ents,clock,h1,h2,_⟩:=hb
  exact⟨g,h1,.inr ⟨fr,t,es,rfl⟩⟩
 |dead=>rw [hk] at h;simp [selOk] at h
 |row fr t xs=>rw [hk] at h;simp [selOk] at h
 |mit m n s l=>rw [hk] at h;simp [selOk] at h

def V.bare:V→Bool
 |.int _ _| .u8 _| .b _| .bt _| .nils| .nilfn| .tup []=>true
 |_=>false
theorem VRel.bare {c c':Cx} {H H':List Blk} {w w':World} {x:V} {v:Value} (hp:x.bare=true) (h:VRel c H w x v):VRel c' H' w' x v:=by
 cases h with
 |int k n h1 h2=>exact .int k n h1 h2
 |u8 x=>exact .u8 x
 |b p x h=>exact .b p x h
 |bt x=>exact .bt x
 |nils=>exact .nils
 |nilfn=>exact .nilfn
 |tup cs vs h=>
  cases cs with
  |nil=>cases h;exact .tup _ _ .nil
  |cons a l=>simp [V.bare] at hp
 |_=>simp [V.bare] at hp

theorem St.nogi {G:List (Nat×V)} {v:W0} (h:St G base v c H w) (hc:∀i cs,getB H i= .cells cs→∃g,c.ρ i=some g):St G base v {c with gi:=none} H w where
 below:=h.below
 xk:={keep:=h.xk.keep,siz:=h.xk.siz,cnt:=h.xk.cnt,gh:=h.xk.gh,l:=h.xk.l,dis:=h.xk.dis,xb:=h.xk.xb,mks:=h.xk.mks,gi:=fun _=>rfl}
 size:=h.size
 blk i:=by
  have hb:=h.blk i
  have hx:∀{x:V} {u:Value},VRel c H w x u→VRel {c with gi:=none} H w x u:=fun h=>h.wk (c:=c) (c':={c with gi:=none}) (fun _ h=>h) (fun _ h=>h) rfl rfl fun id s hs=>⟨hs,rfl,rfl⟩
  cases hk:getB H i with
  |dead=>trivial
  |row fr t xs=>rw [hk] at hb;exact hb
  |cells cs=>
   rw [hk] at hb
   rcases hb with⟨g,e,cur,h1,h2,h3,h4⟩|⟨_,h1,_⟩
   ·exact .inl ⟨g,e,cur,h1,h2,h3,fun j hj=>by obtain⟨u,h5,h6,h7⟩:=h4 j hj;exact⟨u,h5,h6,hx h7⟩⟩
   ·obtain⟨g,hg⟩:=hc i cs hk;rw [hg] at h1;cases h1
  |imap fr t es=>rw [hk] at hb;exact hb
  |mit m n s l=>rw [hk] at hb;cases m<;>exact hb
 inj:=h.inj
 own:=h.own
 imm:=h.imm
 sub:=h.sub
 glob g x hx:=(h.glob g x hx).wk (c:=c) (c':={c with gi:=none}) (fun _ h=>h) (fun _ h=>h) rfl rfl fun id s hs=>⟨hs,rfl,rfl⟩

noncomputable def lookW (w0:W0) (c:Cx) (H:List Blk) (w:World) (sel:List Nat):W0 where
 w:=w0.w
 D g:= @ite _ (∃i∈sel,c.ρ i=some g) (Classical.propDecidable _) none w.heap[g]?
 Z g:=match w.heap[g]? with|some (.cells cur e (0,0))=>some (cur.size,e)|_=>none
 X g:=w0.X g∨((∃i,c.ρ i=some g)∧¬∃i∈sel,c.ρ i=some g)
 mks _:=False
 J _ _ _:=True
 gh:= .tuple #[]::sel.map fun i=>gvV (c.ρ i) (getB H i)
 l:=w0.l

theorem look_in (hk:Known P E) (hst:St E.glob base w0 c H w) {sel:List Nat} (hnd:sel.Nodup) (hgi:∀i,i∈sel→∃g,c.ρ i=some g) (hok:selOks sel H sel=true) (hN:noRef E.glob):
  St E.glob base (lookW w0 c H w sel) (Cx.opn {c.ren sel with gi:=none} (fun _=>False) (lookW w0 c H w sel).gh (selH sel H sel).length) (lookH sel H) w:=by
 have hρ:∀k g,(c.ren sel).ρ k=some g→∃i,sel[k]? =some i∧c.ρ i=some g:=fun k g h=>by
  simpa only [Cx.ren,Option.bind_eq_some_iff] using h
 have hn:St E.glob base w0 {c.ren sel with gi:=none} (selH sel H sel) w:=(hst.ren hN hnd).nogi fun k cs hk=>by
  rw [getB_selH] at hk
  cases hi:sel[k]? with
  |none=>rw [hi] at hk;cases hk
  |some i=>
   obtain⟨g,hg⟩:=hgi i (List.mem_of_getElem? hi)
   exact⟨g,by simp [Cx.ren,hi,hg]⟩
 refine St.open (c:={c.ren sel with gi:=none}) hn rfl (fun _ h=>h.elim) (.cons _ _ _ _ (.tup [] [] .nil) (gvs_rel sel sel 0 fun k i hi=> ?_)) hst.below ?_
 ·obtain⟨g,hg,h⟩:=sel_place hst (selOks_at hok (List.mem_of_getElem? hi)) (hgi i (List.mem_of_getElem? hi))
  have hr:(c.ren sel).ρ k=some g:=by simp [Cx.ren,hi,hg]
  rw [Nat.zero_add]
  rcases h with⟨cs,hc,hl,_,hb⟩|⟨fr,t,es,hc⟩
  ·have hs:shape (selH sel H sel) k=some (cs.length,1):=by rw [shape_sel hi];unfold shape;rw [hc]
   have:=VRel.ptr (c:={c.ren sel with gi:=none}) (H:=selH sel H sel) (w:=w) k 1 0 0 g cs.length hs hr hl (by omega)
   rw [show({c.ren sel with gi:=none}:Cx).β k=c.β i from beta_ren hi,hb] at this
   rw [hc,hg];exact this
  ·have hs:shape (selH sel H sel) k=some (0,0):=by rw [shape_sel hi];unfold shape;rw [hc]
   rw [hc,hg];exact .mp t k g hs hr
 ·exact
   {keep:=fun g o h=>by
     have h:(@ite _ (∃i∈sel,c.ρ i=some g) (Classical.propDecidable _) none w.heap[g]?)=some o:=h
     split at h
     ·cases h
     ·rename_i h4
      refine⟨h,fun k hr=>h4 ?_⟩
      obtain⟨i,h1,h2⟩:=hρ k g hr
      exact⟨i,List.mem_of_getElem? h1,h2⟩
    siz:=fun g m h=>by
     simp only [lookW] at h
     split at h
     ·rename_i cur e hc;cases h;exact⟨cur,hc,rfl⟩
     ·cases h
    cnt:=trivial
    gh:=rfl
    l:=hst.xk.l
    dis:=fun g hg hX=>hX.elim (hg.elim (hst.xk.dis g) fun h=>h.elim) fun h=>by obtain⟨i,hi⟩:=h.1;exact hg.elim (hst.own i g hi).2.2.1 fun h=>h
    xb:=fun g hX=>by
     rcases hX with hX|hX
     ·exact⟨(hst.xk.xb g hX).1,fun k hr=>by obtain⟨i,h1,h2⟩:=hρ k g hr;exact(hst.xk.xb g hX).2 i h2⟩
     ·obtain⟨i,hi⟩:=hX.1
      exact⟨(hst.own i g hi).2.1,fun k hr=>hX.2 (by obtain⟨i,h1,h2⟩:=hρ k g hr;exact⟨i,List.mem_of_getElem? h1,h2⟩)⟩
    mks:=fun _ h=>h.elim
    gi:=fun h=>by cases h}

theorem look_out (hst:St E.glob base w0 c H w) {sel:List Nat} (hnd:sel.Nodup) (hgi:∀i,i∈sel→∃g,c.ρ i=some g) (hok:selOks sel H sel=true)
  {c':Cx} {L:List Blk} {w':World} (hst':St E.glob base (lookW w0 c H w sel) c' (lookH sel H++L) w'):
  ∃c2,St E.glob base w0 c2 H w'∧Ext c H w c2 H w':=by
 have hlen:(selH sel H sel).length=sel.length:=length_selH sel H sel
 have hlt:∀k i,sel[k]? =some i→k<sel.length:=fun k i h=>(List.getElem?_eq_some_iff.1 h).1
 have hgb:∀k i,sel[k]? =some i→getB (lookH sel H++L) k=renB sel (getB H i):=fun k i h=>by
  have:=hlt k i h
  rw [getB_app,if_pos (by simp [lookH,eyeH];omega),lookH,eyeH,getB_app,if_pos (by omega),getB_selH,h]
 have hsh:∀k i,sel[k]? =some i→shape (lookH sel H++L) k=shape H i:=fun k i h=>by
  rw [←shape_sel (H:=H) h]
  have:=hlt k i h
  unfold shape
  rw [hgb k i h,getB_selH,h]
 have hG:=hst'.blk sel.length
 have hgG:getB (lookH sel H++L) sel.length= .cells (.tup []::gvl 0 (selH sel H sel)):=by
  rw [getB_app,if_pos (by simp [lookH,eyeH];omega),lookH,eyeH,getB_app,if_neg (by omega),hlen,Nat.sub_self];rfl
 rw [hgG] at hG
 have hgv:VRels c' (lookH sel H++L) w' (.tup []::gvl 0 (selH sel H sel)) (.tuple #[]::sel.map fun i=>gvV (c.ρ i) (getB H i)):=by
  rcases hG with⟨_,_,_,_,_,_,h4⟩|⟨_,_,h4⟩
  ·obtain⟨v,_,h5,h6⟩:=h4 0 (by simp)
   have h6:VRel c' (lookH sel H++L) w' (.tup []) v:=h6
   rw [h6.tup0_inv] at h5;cases h5
  ·rw [hst'.xk.gh] at h4;exact h4
 have hpl:∀k i,sel[k]? =some i→c'.ρ k=c.ρ i∧(shape H i≠some (0,0)→c'.β k=0∧c.β i=0):=fun k i h=>by
  have hm:=List.mem_of_getElem? h
  have h1:=hgv.get (k+1)
  have e1:gets (.tup []::gvl 0 (selH sel H sel)) (k+1)=gvB k (getB H i):=by
   show gets (gvl 0 (selH sel H sel)) k=_
   rw [gets_gvl,selH_at,h];simp [gvB_ren]
  have e2:(Value.tuple #[]::sel.map fun i=>gvV (c.ρ i) (getB H i)).getD (k+1) undef=gvV (c.ρ i) (getB H i):=by
   simp [List.getD,h]
  rw [e1,e2] at h1
  obtain⟨g,hg,hc⟩:=sel_place hst (selOks_at hok hm) (hgi i hm)
  have hbk:=hst'.blk k
  rw [hgb k i h] at hbk
  rcases hc with⟨cs,hc,hl,_,hb⟩|⟨fr,t,es,hc⟩
  ·rw [hc,hg] at h1
   have h1:VRel c' (lookH sel H++L) w' (.ptr k 1 0 0) (.pointer (some ⟨g,0,none⟩)):=h1
   obtain⟨g',m,_,h2,_,_,h3⟩:=h1.ptr_inv
   injection h3 with h3;injection h3 with h3;injection h3 with h3 h4 h5
   rw [h2,hg,h3]
   refine⟨rfl,fun _=>⟨?_,hb⟩⟩
   omega
  ·rw [hc,hg] at h1
   have h1:VRel c' (lookH sel H++L) w' (.mp t k) (.map (some g)):=h1
   cases h1 with|mp _ _ _ _ h2=>
   exact⟨h2.trans hg.symm,fun h=>absurd (by unfold shape;rw [hc]) h⟩
 let sd:Nat→Prop:=fun g=>∃i∈sel,c.ρ i=some g
 have hsd:∀g,sd g→∃k i,sel[k]? =some i∧c.ρ i=some g∧c'.ρ k=some g:=fun g ⟨i,h1,h2⟩=>by
  obtain⟨k,hk⟩:=List.mem_iff_getElem?.1 h1
  exact⟨k,i,hk,h2,(hpl k i hk).1.trans h2⟩
 have keepf:∀g,¬sd g→g<w.heap.size→w'.heap[g]? =w.heap[g]? :=fun g h4 hlt=>by
  have h1:w.heap[g]? =some (w.heap[g]'hlt):=Array.getElem?_eq_getElem hlt
  rw [h1]
  refine(hst'.xk.keep g _ ?_).1
  show(@ite _ (∃i∈sel,c.ρ i=some g) (Classical.propDecidable _) none w.heap[g]?)=_
  rw [if_neg h4];exact h1
 have sizf:∀(g:Nat) (cur:Array Value) (e:TypeId),w.heap[g]? =some (.cells cur e (0,0))→∃cur',w'.heap[g]? =some (.cells cur' e (0,0))∧cur'.size=cur.size:=fun g cur e h=>by
  exact hst'.xk.siz g (cur.size,e) (by show(match w.heap[g]? with|some (.cells cur e (0,0))=>some (cur.size,e)|_=>none)=_;rw [h];rfl)
 have ltf:∀g,g<w.heap.size→g<w'.heap.size:=fun g hg=>by
  rcases Classical.em (sd g) with h4|h4
  ·obtain⟨k,i,_,_,h⟩:=hsd g h4;exact(hst'.own k g h).2.1
  ·have:=keepf g h4 hg
   rw [Array.getElem?_eq_getElem hg] at this
   exact(Array.getElem?_eq_some_iff.1 this).1
 let c2:Cx:={M:=fun g=>c.M g∨c'.M g,N:=fun g=>c.N g∨c'.N g,ρ:=c.ρ,β:=c.β,x:=c.x,gi:=c.gi}
 have hMs:∀g,c.M g→¬sd g:=fun g hg ⟨i,_,hi⟩=>(hst.own i g hi).2.2.1 hg
 have hext:Ext c H w c2 H w':=
  {M:=fun _ h=> .inl h
   N:=fun _ h=> .inl h
   mem:=fun g hg=>keepf g (hMs g (hg.elim (fun h=>h) fun h=>(hst.sub g h).1)) (hst.imm g (hg.elim (fun h=>h) fun h=>(hst.sub g h).1))
   shp:=fun i s hs=>⟨hs,rfl⟩
   siz:=fun i s g cur e _ _ hg=>sizf g cur e hg
   x:=rfl
   gi:=rfl
   bas:=fun _ _ _=>rfl}
 have hun:∀k i,sel[k]? =some i→c2.ρ i=c'.ρ k∧shape H i=shape (lookH sel H++L) k∧(shape (lookH sel H++L) k≠some (0,0)→c2.β i=c'.β k):=fun k i h=>by
  refine⟨(hpl k i h).1.symm,(hsh k i h).symm,fun hne=> ?_⟩
  rw [hsh k i h] at hne
  obtain⟨q1,q2⟩:=(hpl k i h).2 hne
  exact q2.trans q1.symm
 refine⟨c2,?_,hext⟩
 exact
  {below:=hst'.below
   xk:=
    {keep:=fun g o h=>by
      obtain⟨h1,h2⟩:=hst.xk.keep g o h
      exact⟨(keepf g (fun⟨i,_,hi⟩=>h2 i hi) (Array.getElem?_eq_some_iff.1 h1).1).trans h1,h2⟩
     siz:=fun g m hm=>by
      obtain⟨cur,h1,h2⟩:=hst.xk.siz g m hm
      obtain⟨cur',h3,h4⟩:=sizf g cur m.2 h1
      exact⟨cur',h3,h4.trans h2⟩
     cnt:=hst.xk.cnt
     gh:=hst.xk.gh
     l:=hst.xk.l
     dis:=fun g hg hX=>hg.elim (fun h=>hst.xk.dis g h hX) fun h=>hst'.xk.dis g h (.inl hX)
     xb:=fun g hX=>⟨ltf g (hst.xk.xb g hX).1,(hst.xk.xb g hX).2⟩
     mks:=hst.xk.mks
     gi:=hst.xk.gi}
   size:=hst'.size
   blk:=fun i=>by
    by_cases hi:i∈sel
    ·obtain⟨k,hk⟩:=List.mem_iff_getElem?.1 hi
     obtain⟨g,hg,hc⟩:=sel_place hst (selOks_at hok hi) (hgi i hi)
     have hbk:=hst'.blk k
     rw [hgb k i hk] at hbk
     have hr:c'.ρ k=some g:=(hpl k i hk).1.trans hg
     rcases hc with⟨cs,hc,hl,hse,hb⟩|⟨fr,t,es,hc⟩
     ·rw [hc] at hbk ⊢
      rcases hbk with⟨g',e,cur,q1,q2,q3,q4⟩|⟨_,q,_⟩
      ·rw [hr] at q1;cases q1
       rw [length_renL] at q3 q4
       refine .inl ⟨g,e,cur,hg,q2,⟨hb,q3.2⟩,fun j hj=> ?_⟩
       obtain⟨v,q5,q6,q7⟩:=q4 j hj
       rw [gets_renL] at q7
       exact⟨v,by rw [q3.1] at q5;rw [show c2.β i=0 from hb];exact q5,q6,VRel.unren (c2:=c2) (fun _ h=>Or.inr h) (fun _ h=>Or.inr h) hun _ (V.seenL_gets hse j) q7⟩
      ·rw [hr] at q;cases q
     ·rw [hc] at hbk ⊢
      obtain⟨g',ents,clock,h1,h2,h3,h4,h5,h6⟩:=hbk
      rw [hr] at h1;cases h1
      refine⟨g,ents,clock,hg,h2,h3,h4,h5,fun j n x hj=> ?_⟩
      obtain⟨v,b,h7,h8,h9⟩:=h6 j n x hj
      exact⟨v,b,h7,h8,DRel.ext (M:=c'.im fr) (by cases fr;exact fun _ h=> .inr h;exact fun _ h=> .inr h) (fun _ _=>rfl) _ _ _ h9⟩
    ·refine BOk.keep hext (fun _=>rfl) (fun _=>rfl) (fun g hg=>keepf g (fun⟨j,h1,h2⟩=>hi ?_) (hst.own i g hg).2.1) (hst.blk i)
     rw [hst.inj i j g hg h2];exact h1
   inj:=hst.inj
   own:=fun i g hi=>by
    obtain⟨h1,h2,h3,h4⟩:=hst.own i g hi
    refine⟨h1,ltf g h2,fun hm=>hm.elim h3 fun hm=> ?_,h4⟩
    rcases Classical.em (sd g) with h5|h5
    ·obtain⟨k,j,_,_,h⟩:=hsd g h5
     exact(hst'.own k g h).2.2.1 hm
    ·exact hst'.xk.dis g hm (.inr ⟨⟨i,hi⟩,h5⟩)
   imm:=fun g hg=>hg.elim (fun h=>ltf g (hst.imm g h)) (hst'.imm g)
   sub:=fun g hg=>hg.elim (fun h=>⟨.inl (hst.sub g h).1,(hst.sub g h).2⟩) fun h=>⟨.inr (hst'.sub g h).1,(hst'.sub g h).2⟩
   glob:=fun g y hy=>(hst.glob g y hy).ext hext}

theorem look_at (hk:Known P E) (hyl:E.yl=none) (hrf:E.rf=false) {f:FuncId} {fn:Func} (hf:P.funcs[f]? =some fn) {vs:List Value} {args:List V} (hst:St E.glob base w0 c H w) (hv:VRels c H w args vs)
  {sel:List Nat} (hnd:sel.Nodup) (hgi:∀i,i∈sel→∃g,c.ρ i=some g) (hok:selOks sel H sel=true) {R:V→Prop}
  (hb:body E fn (renL sel args) (lookH sel H) (fun v H'=>(v.bare=true∧R v)∧∃L,H'=lookH sel H++L)):
  Calls P f vs.toArray w fun e w'=>∃x v c',e= .returned v∧R x∧VRel c' H w' x v∧St E.glob base w0 c' H w'∧Ext c H w c' H w':=by
 have h0:=look_in hk hst hnd hgi hok hk.noref
 have hv0:VRels (Cx.opn {c.ren sel with gi:=none} (fun _=>False) (lookW w0 c H w sel).gh (selH sel H sel).length) (lookH sel H) w (renL sel args) vs:=
  (hv.ren fun k i hk=>shape_sel hk).wk (c:=c.ren sel) (H:=selH sel H sel) (c':=Cx.opn {c.ren sel with gi:=none} (fun _=>False) (lookW w0 c H w sel).gh (selH sel H sel).length) (fun _ h=>Or.inl h) (fun _ h=>h) rfl rfl fun id s hs=>⟨shape_append hs,rfl,rfl⟩
 refine(body_ok2 hk hyl hrf (fun _ _ _=>trivial) (fun _ h=>h) hf h0 hv0 hb).mono ?_
 rintro e w' ⟨x,v,H',c',rfl,⟨⟨hp,hR⟩,L,rfl⟩,hx,hst'⟩
 obtain⟨c2,h1,h2⟩:=look_out hst hnd hgi hok hst'
 exact⟨x,v,c2,rfl,hR,hx.bare hp,h1,h2⟩

def ptrOf:List V→List Nat
 |[]=> []
 |.ptr i _ _ _::l=>i::ptrOf l
 |_::l=>ptrOf l
def mpsOf:List V→List Nat
 |[]=> []
 |.mp _ i::l=>i::mpsOf l
 |_::l=>mpsOf l
def mpsIn (H:List Blk):List Nat→List Nat
 |[]=> []
 |i::l=>(match getB H i with| .cells cs=>mpsOf cs|_=> [])++mpsIn H l
def lookSel (args:List V) (H:List Blk):List Nat:=ptrOf args++mpsIn H (ptrOf args)
def lookC (spec:List V→List Blk→Option (Prop×V)):Con:=fun args H R=>
 match spec (renL (lookSel args H) args) (selH (lookSel args H) H (lookSel args H)) with
 |some (p,v)=>(nodupB (lookSel args H)=true∧selOks (lookSel args H) H (lookSel args H)=true)∧p∧R v H
 |none=>False
def recL (μ:List V→List Blk→Nat) (n:Nat) (spec:List V→List Blk→Option (Prop×V)):List V→List Blk→Option (Prop×V):=fun xs H=>
 match spec xs H with
 |some (p,v)=>some (p∧μ xs H<n,v)
 |none=>none

theorem mpsIn_same {H H2:List Blk}:∀{l:List Nat},(∀i,i∈l→getB H2 i=getB H i)→mpsIn H2 l=mpsIn H l
 |[],_=>rfl
 |i::l,h=>by
  unfold mpsIn
  rw [h i (by simp),mpsIn_same fun j hj=>h j (by simp [hj])]
theorem selH_same {sel:List Nat} {H H2:List Blk}:∀{l:List Nat},(∀i,i∈l→getB H2 i=getB H i)→selH sel H2 l=selH sel H l
 |[],_=>rfl
 |i::l,h=>by
  unfold selH
  rw [h i (by simp),selH_same fun j hj=>h j (by simp [hj])]
theorem selOks_same {sel:List Nat} {H H2:List Blk}:∀{l:List Nat},(∀i,i∈l→getB H2 i=getB H i)→selOks sel H2 l=selOks sel H l
 |[],_=>rfl
 |i::l,h=>by
  unfold selOks
  rw [h i (by simp),selOks_same fun j hj=>h j (by simp [hj])]
theorem lookC_same {spec:List V→List Blk→Option (Prop×V)} {args:List V} {H H2:List Blk} {R R2:V→List Blk→Prop} (hg:∀i,getB H i≠ .dead→getB H2 i=getB H i) (hR:∀v,R v H→R2 v H2) (h:lookC spec args H R):lookC spec args H2 R2:=by
 unfold lookC at h
 split at h<;>try exact h.elim
 rename_i p v hs
 obtain⟨⟨h1,h2⟩,h3,h4⟩:=h
 have hq:∀i,i∈lookSel args H→getB H2 i=getB H i:=fun i hi=>hg i fun e=>by
  have:=selOks_at h2 hi
  rw [e] at this
  simp [selOk] at this
 have hl:lookSel args H2=lookSel args H:=by
  unfold lookSel
  rw [mpsIn_same fun i hi=>hq i (List.mem_append.2 (.inl hi))]
 unfold lookC
 rw [hl,selH_same hq,hs]
 exact⟨⟨h1,by rw [selOks_same hq];exact h2⟩,h3,hR _ h4⟩
theorem Det.look (spec:List V→List Blk→Option (Prop×V)):Det (lookC spec) where
 det args H R h:=by
  have h0:=h
  unfold lookC at h
  split at h<;>try exact h.elim
  rename_i p v hs
  refine⟨v, [],by rw [List.append_nil];exact h.2.2,fun R' hR'=> ?_⟩
  unfold lookC
  rw [hs]
  rw [List.append_nil] at hR'
  exact⟨h.1,h.2.1,hR'⟩
 mono args H H2 v0 hle hv h:=lookC_same hle (fun v h=>⟨h.1,rfl⟩) h
 fill args H F R R2 hF hR h:=lookC_same (fun i hi=>by rw [hF.get,hF.no hi,Option.getD_none]) (fun v h=>hR v H h) h

theorem ptrOf_place:∀{xs:List V} {vs:List Value} {i:Nat},VRels c H w xs vs→i∈ptrOf xs→∃g,c.ρ i=some g
 |[],_,i,_,h=>by cases h
 | x::xs,_,i,h,hi=>by
  obtain⟨v,us,rfl,h1,h2⟩:=h.cons_inv
  cases x with
  |ptr j z a o=>
   rcases List.mem_cons.1 hi with rfl|hi
   ·obtain⟨g,_,_,hg,_⟩:=h1.ptr_inv;exact⟨g,hg⟩
   ·exact ptrOf_place h2 hi
  |_=>exact ptrOf_place h2 hi
theorem mpsOf_at:∀{xs:List V} {i:Nat},i∈mpsOf xs→∃j t,j<xs.length∧gets xs j= .mp t i
 |[],i,h=>by cases h
 | x::xs,i,hi=>by
  have go:i∈mpsOf xs→∃j t,j<(x::xs).length∧gets (x::xs) j= .mp t i:=fun h=>by
   obtain⟨j,t,h1,h2⟩:=mpsOf_at h
   exact⟨j+1,t,by simp;omega,h2⟩
  cases x with
  |mp t j=>
   rcases List.mem_cons.1 hi with rfl|hi
   ·exact⟨0,t,by simp,rfl⟩
   ·exact go hi
  |_=>exact go hi
theorem mpsIn_place (hst:St E.glob base w0 c H w):∀{l:List Nat} {i:Nat},(∀j,j∈l→∃g,c.ρ j=some g)→i∈mpsIn H l→∃g,c.ρ i=some g
 |[],i,_,h=>by cases h
 | j::l,i,hl,h=>by
  rcases List.mem_append.1 h with h|h
  ·have hb:=hst.blk j
   split at h
   ·rename_i cs hk
    rw [hk] at hb
    obtain⟨q,t,h1,h2⟩:=mpsOf_at h
    rcases hb with⟨g,e,cur,_,_,_,h4⟩|⟨_,h3,_⟩
    ·obtain⟨v,_,_,h5⟩:=h4 q h1
     rw [h2] at h5
     cases h5 with|mp _ _ g _ h6=>exact⟨g,h6⟩
    ·obtain⟨g,hg⟩:=hl j (by simp);rw [hg] at h3;cases h3
   ·cases h
  ·exact mpsIn_place hst (fun k hk=>hl k (by simp [hk])) h
theorem lookSel_place (hst:St E.glob base w0 c H w) {args:List V} {vs:List Value} (hv:VRels c H w args vs) {i:Nat} (h:i∈lookSel args H):∃g,c.ρ i=some g:=
 (List.mem_append.1 h).elim (ptrOf_place hv) (mpsIn_place hst fun _=>ptrOf_place hv)

theorem Known.addLook {z:List Nat} {P:Program} {tys:List (Nat×Ty)} {G:List (Nat×V)} {l:List (Nat×Con)} {q:List (Nat×SeqC)} (h:Known P (En l tys G q z)) {f:Nat} {fn:Func} (hf:P.funcs[f]? =some fn) (hent:∀args w,(callFunc f args).run P w= .ok (.enter f args) w)
  {spec:List V→List Blk→Option (Prop×V)} (μ:List V→List Blk→Nat)
  (hb:∀xs H p v,spec xs H=some (p,v)→p→body (En ((f,lookC (recL μ (μ xs H) spec))::l) tys G q z).inR fn xs (eyeH H) (fun v' H'=>(v'.bare=true∧v'=v)∧∃L,H'=eyeH H++L)):
  Known P (En ((f,lookC spec)::l) tys G q z):=by
 have step:∀(base:Nat) (w0:W0) (c:Cx) (H:List Blk) (w:World) (args:List V) (vs:List Value) (R:V→List Blk→Prop) (n:Nat),(∀m,m<n→Holds P G f (lookC (recL μ m spec)))→St G base w0 c H w→VRels c H w args vs→lookC (recL μ n spec) args H R→
   Calls P f vs.toArray w fun e w'=>∃x v H' c',e= .returned v∧R x H'∧VRel c' H' w' x v∧St G base w0 c' H' w'∧Ext c H w c' H' w':=by
  intro base w0 c H w args vs R n ih hst hv hc
  unfold lookC at hc
  split at hc<;>try exact hc.elim
  rename_i p v hsp
  obtain⟨⟨hnd,hok⟩,hp,hc⟩:=hc
  unfold recL at hsp
  split at hsp<;>try cases hsp
  rename_i p0 hsp0
  refine(look_at (h.cons (ih _ hp.2) (Det.look _)).inR rfl rfl hf hst hv (nodupB_iff _ hnd) (fun i hi=>lookSel_place (E:=En l tys G q z) hst hv hi) hok (R:=fun v'=>v'=v) (hb _ _ p0 v hsp0 hp.1)).mono ?_
  rintro e w' ⟨x,u,c',rfl,rfl,h1,h2,h3⟩
  exact⟨_,u,_,c',rfl,hc,h1,h2,h3⟩
 have key:∀n,Holds P G f (lookC (recL μ n spec)):=fun n=>by
  induction n using Nat.strongRecOn with
  |_ n ih=>exact⟨hent,fun base w0 c H w args vs hst hv R hc=>step base w0 c H w args vs R n ih hst hv hc⟩
 refine h.cons ⟨hent,fun base w0 c H w args vs hst hv R hc=> ?_⟩ (Det.look _)
 have hto:∃n,lookC (recL μ n spec) args H R:=by
  unfold lookC at hc
  split at hc<;>try exact hc.elim
  rename_i p v hsp
  refine⟨μ (renL (lookSel args H) args) (selH (lookSel args H) H (lookSel args H))+1,?_⟩
  unfold lookC
  simp only [recL,hsp]
  exact⟨hc.1,⟨hc.2.1,by omega⟩,hc.2.2⟩
 obtain⟨n,hto⟩:=hto
 exact(key n).2 base w0 c H w args vs hst hv R hto
end
end
open Go
theorem om (p:Prop) (h:p:=by first|omega|assumption|decide+kernel):p:=h
theorem oc (p:Prop) [Decidable p] (h:p:=by decide+kernel):p:=h
theorem dp (p:Prop) [Decidable p] {Y:Prop} (h:p:=by decide+kernel):¬p→Y:=fun g=>absurd h g
theorem dn (p:Prop) [Decidable p] {Y:Prop} (h:¬p:=by decide+kernel):p→Y:=fun g=>absurd g h
theorem os (p:Prop) (h:p:=by first|omega|assumption|(simp only [List.length_cons,List.length_nil,List.length_append,List.length_take,List.length_drop,List.length_set,List.length_replicate];omega)):p:=h
theorem cs {α:Sort _} {a:α} {Y:Prop}:a≠a→Y:=fun h=>absurd rfl h
theorem nw {p:Prop} (h:¬¬p):p:=Classical.not_not.1 h
abbrev tTk:Ty:= .cons (.sl (.int .i64)) (.cons (.int .i64) (.cons (.int .i64) (.cons (.int .i64) (.cons (.int .i64) (.cons (.int .i64) .nil)))))
abbrev tSt:Ty:= .cons (.int .i64) (.cons .str (.cons (.sl (.sl .str)) (.cons (.sl (.sl (.sl .str))) .nil)))
abbrev tMl:Ty:= .cons (.int .i64) (.cons (.int .i64) (.cons (.int .i64) (.cons (.int .i64) (.cons (.sl .str) .nil))))
abbrev tPo:Ty:= .cons (.int .i64) (.cons (.sl (.int .i64)) .nil)
abbrev aTk (hs:List Int) (a b c d e:Int):V:= .agg [.sl false (.int .i64) hs,.int .i64 a,.int .i64 b,.int .i64 c,.int .i64 d,.int .i64 e]
abbrev aSt (me:Int) (sh:List UInt8) (R:List (List (List UInt8))) (W:List (List (List (List UInt8)))):V:= .agg [.int .i64 me,.str sh,.sl false (.sl .str) R,.sl false (.sl (.sl .str)) W]
theorem r64 (x:Int) (h: -9223372036854775808≤x∧x≤9223372036854775807:=by first|omega|decide+kernel): -9223372036854775808≤x∧x≤9223372036854775807:=h
theorem ix (a b:Int) (h:0≤a∧a<b:=by first|omega|decide+kernel):0≤a∧a<b:=h
theorem l9 (n:Nat) (h:n+1≤1000000000:=by first|omega|decide+kernel):n+1≤1000000000:=h
theorem yn (p:Prop) {X Y:Prop} (x:p→X) (y:¬p→Y):(p→X)∧(¬p→Y):=⟨x,y⟩
theorem ny (p:Prop) {X Y:Prop} (x:¬p→X) (y:p→Y):(¬p→X)∧(p→Y):=⟨x,y⟩
theorem ya {p X Y:Prop} [Decidable p] (x:X) (h:decide p=true:=by kernel_rfl):(p→X)∧(¬p→Y):=⟨fun _=>x,fun g=>absurd (of_decide_eq_true h) g⟩
theorem ye {p X Y:Prop} [Decidable p] (x:X) (h:decide p=true:=by rfl):(p→X)∧(¬p→Y):=⟨fun _=>x,fun g=>absurd (of_decide_eq_true h) g⟩
theorem nf {p X Y:Prop} [Decidable p] (y:Y) (h:decide p=false:=by rfl):(p→X)∧(¬p→Y):=⟨fun g=>absurd g (of_decide_eq_false h),fun _=>y⟩
theorem na {p X Y:Prop} [Decidable p] (y:Y) (h:decide p=false:=by kernel_rfl):(p→X)∧(¬p→Y):=⟨fun g=>absurd g (of_decide_eq_false h),fun _=>y⟩
theorem l1:1≤1000000000:=by decide
theorem l0 (n:Nat) (h:n≤1000000000:=by first|omega|decide+kernel):0+n≤1000000000:=by omega
theorem lT {α:Type} (l:List α) (j:Nat) (h:l.length+1≤1000000000:=by first|omega|decide+kernel):(l.take j).length+1≤1000000000:=by rw [List.length_take];omega
theorem cp (p:Prop) {Y:Prop} (h:p:=by first|omega|assumption|decide|simp_all):¬p→Y:=fun g=>absurd h g
theorem cn (p:Prop) {Y:Prop} (h:¬p:=by first|omega|assumption|decide|simp_all):p→Y:=fun g=>absurd g h
theorem w2' {α β:Sort _} {a:α} {b:β}:a=a∧b=b:=⟨rfl,rfl⟩
theorem w3' {α β γ:Sort _} {a:α} {b:β} {c:γ}:a=a∧b=b∧c=c:=⟨rfl,rfl,rfl⟩
theorem d4' {α β γ δ:Sort _} {a:α} {b:β} {c:γ} {d:δ}:a=a∧b=b∧c=c∧d=d:=⟨rfl,rfl,rfl,rfl⟩
theorem w4' {α β γ:Sort _} {a:α} {b:β} {c:γ} {n m:Nat} (h:Nat.ble n m=true:=by rfl):a=a∧b=b∧c=c∧n≤m:=⟨rfl,rfl,rfl,Nat.le_of_ble_eq_true h⟩
abbrev V.i (x:Int):V:= .int .i64 x
abbrev V.p (n:Nat):V:= .ptr n 1 0 0
abbrev Blk.r (t:Ty) (xs:List t.D):Blk:= .row true t xs
abbrev cTk (hs:List Int) (a b c d e:Int):Blk:= .cells [.sl false (.int .i64) hs,.int .i64 a,.int .i64 b,.int .i64 c,.int .i64 d,.int .i64 e]
abbrev cSt (me:Int) (sh:List UInt8) (R:List (List (List UInt8))) (W:List (List (List (List UInt8)))):Blk:= .cells [.int .i64 me,.str sh,.sl false (.sl .str) R,.sl false (.sl (.sl .str)) W]
theorem qd {p:Prop} [Decidable p] (h:decide p=true:=by kernel_rfl):p:=of_decide_eq_true h
theorem qi {a b:Int} (h:(decide (0≤a)&&decide (a<b))=true:=by kernel_rfl):0≤a∧a<b:=by rw [Bool.and_eq_true,decide_eq_true_eq,decide_eq_true_eq] at h;exact h
theorem q64 {x:Int} (h:(decide (-9223372036854775808≤x)&&decide (x≤9223372036854775807))=true:=by kernel_rfl): -9223372036854775808≤x∧x≤9223372036854775807:=by rw [Bool.and_eq_true,decide_eq_true_eq,decide_eq_true_eq] at h;exact h
theorem lq {n m:Nat} (h:Nat.ble n m=true:=by kernel_rfl):n≤m:=Nat.le_of_ble_eq_true h
class Sz (m:outParam Nat):Prop where t:True
abbrev mS {m:Nat} [Sz m]:Nat:=m
theorem mSq {m:Nat} [Sz m]:mS=m:=rfl
class Rd (a:outParam Nat):Prop where t:True
abbrev aS {a:Nat} [Rd a]:Nat:=a
def bodyQ (E:Env) (fn:Func) (ms:List Mode) (s:List V→Option (Prop×V×List Blk)) (ds:List V):Prop:=
 match s ds with
 |some (p,v,bs)=>p→bodyP E fn ms ds v bs
 |none=>True
def bodyR (E:Env) (fn:Func) (ms:List Mode) (s:List V→Option (Prop×V×List Blk)) (ds:List V):Prop:=
 match s ds with
 |some (p,v,bs)=>p→bodyI E fn ms ds v bs
 |none=>True
theorem Known.addQ {z:List Nat} {P:Program} {tys:List (Nat×Ty)} {G:List (Nat×V)} {l:List (Nat×Con)} {q:List (Nat×SeqC)} (h:Known P (En l tys G q z)) {f:Nat} {fn:Func} (hf:P.funcs[f]? =some fn) (hent:∀args w,(callFunc f args).run P w= .ok (.enter f args) w)
  {ks:List PK} {spec:List V→Option (Prop×V×List Blk)} (ms:List Mode) (hb:∀ds p v bs,spec ds=some (p,v,bs)→bodyQ (En l tys G q z) fn ms spec ds):Known P (En ((f,pureC ks spec)::l) tys G q z):=
 h.add hf hent ms fun ds p v bs e hp=>by
  have g:=hb ds p v bs e
  unfold bodyQ at g
  rw [e] at g
  exact g hp
theorem Known.addR {z:List Nat} {P:Program} {tys:List (Nat×Ty)} {G:List (Nat×V)} {l:List (Nat×Con)} {q:List (Nat×SeqC)} (h:Known P (En l tys G q z)) {f:Nat} {fn:Func} (hf:P.funcs[f]? =some fn) (hent:∀args w,(callFunc f args).run P w= .ok (.enter f args) w)
  {ks:List PK} {spec:List V→Option (Prop×V×List Blk)} (ms:List Mode) (hb:∀ds p v bs,spec ds=some (p,v,bs)→bodyR (En l tys G q z) fn ms spec ds):Known P (En ((f,immC ks spec)::l) tys G q z):=
 h.addI hf hent ms fun ds p v bs e hp=>by
  have g:=hb ds p v bs e
  unfold bodyR at g
  rw [e] at g
  exact g hp
open Go Go.RowKit Go.WideShapes
section
def Deep (P:Program):Ty→TypeId⊕(List Field×Nat)→Prop
 |.u8,.inl T=>P.underlying T=some (.int .u8)
 |.int k,.inl T=>P.underlying T=some (.int k)
 |.bool,.inl T=>P.underlying T=some .bool
 |.str,.inl T=>P.underlying T=some .string
 |.sl t,.inl T=>∃e,P.underlying T=some (.slice e)∧P.cellsOf e=t.size∧0<t.size∧Deep P t (.inl e)
 |.arr n t,.inl T=>∃e,P.underlying T=some (.array n e)∧P.cellsOf T=n*t.size∧P.cellsOf e=t.size∧Deep P t (.inl e)
 |.cons t ts,.inl T=>∃fs f fs',P.underlying T=some (.struct fs)∧fs.toList=f::fs'∧P.cellsOf T=t.size+ts.size∧f.offset=0∧P.cellsOf f.type=t.size∧Deep P t (.inl f.type)∧Deep P ts (.inr (fs',t.size))
 |.cons t ts,.inr (f::fs,o)=>f.offset=o∧P.cellsOf f.type=t.size∧Deep P t (.inl f.type)∧Deep P ts (.inr (fs,o+t.size))
 |.nil,.inr ([],_)=>True
 |_,_=>False

def wt:(t:Ty)→t.D→Nat
 |.str,s=>s.length+1
 |.sl t,xs=>(xs.map (wt t)).sum+1
 |.cons t ts,x=>wt t x.1+wt ts x.2
 |.arr _ t,xs=>(xs.map (wt t)).sum
 |.nil,_=>0
 |_,_=>1

def WfD:(t:Ty)→t.D→Prop
 |.int k,n=>k.min≤n∧n≤k.max
 |.sl t,xs=>∀x∈(xs:List t.D),WfD t x
 |.arr n t,xs=>(xs:List t.D).length=n∧∀x∈(xs:List t.D),WfD t x
 |.cons t ts,x=>WfD t x.1∧WfD ts x.2
 |_,_=>True
theorem DRel.wf {w:World} {M:Nat→Prop}:∀(t:Ty) (x:t.D) (cs:List Value),DRel w M t x cs→WfD t x
 |.u8,_,_,_=>trivial
 |.int _,_,_,h=>h.2
 |.bool,_,_,_=>trivial
 |.str,_,_,_=>trivial
 |.nil,_,_,_=>trivial
 |.fnT,_,_,_=>trivial
 |.mapT _,_,_,_=>trivial
 |.sl t,xs,cs,h=>fun x hx=>by
  obtain⟨a,cap,_,_,_,h4⟩:=h
  obtain⟨i,hi,rfl⟩:=List.mem_iff_getElem.1 hx
  obtain⟨g,o,_,_,h5⟩:=h4 (List.ne_nil_of_mem hx)
  obtain⟨es,he,_⟩:=h5 i _ (List.getElem?_eq_getElem hi)
  exact DRel.wf t _ es he
 |.arr n t,xs,cs,h=>⟨h.1,fun x hx=>by
  obtain⟨h0,ess,h1,h2,h3⟩:=h
  obtain⟨i,hi,rfl⟩:=List.mem_iff_getElem.1 hx
  exact DRel.wf t _ _ (h3 i _ _ (List.getElem?_eq_getElem hi) (List.getElem?_eq_getElem (by omega)))⟩
 |.cons t ts,x,cs,h=>by
  obtain⟨c1,c2,_,h1,h2⟩:=h
  exact⟨DRel.wf t _ _ h1,DRel.wf ts _ _ h2⟩
structure Bulk {H:Type} (bk:DataW H→Nat):Prop where
 one:∀d,1≤bk d
 str:∀b,b.length+1≤bk (.lit (.string b))
 sl:∀es sp,(es.map bk).sum+1≤bk (.slice es sp)
 agg:∀ps,(ps.map bk).sum≤bk (.agg ps)

theorem pick_list {α:Type} {Q:Nat→α→Prop}:∀{n:Nat},(∀i,i<n→∃x,Q i x)→∃xs:List α,xs.length=n∧∀i x,xs[i]? =some x→Q i x
 |0,_=>⟨[],rfl,fun i x h=>by simp at h⟩
 | n+1,h=>by
  obtain⟨xs,h1,h2⟩:=pick_list (Q:=fun i=>Q i) (n:=n) fun i hi=>h i (by omega)
  obtain⟨y,hy⟩:=h n (by omega)
  refine⟨xs++ [y],by simp [h1],fun i x hx=> ?_⟩
  rcases Nat.lt_or_ge i n with g|g
  ·rw [List.getElem?_append_left (by omega)] at hx
   exact h2 i x hx
  ·by_cases e:i=n
   ·subst e
    rw [List.getElem?_append_right (by omega),h1,Nat.sub_self] at hx
    simp at hx
    subst hx
    exact hy
   ·rw [List.getElem?_eq_none (by simp [h1];omega)] at hx
    cases hx
theorem sum_le {α β:Type} (f:α→Nat) (g:β→Nat):∀(xs:List α) (ys:List β),xs.length=ys.length→(∀(i:Nat) (x:α) (y:β),xs[i]? =some x→ys[i]? =some y→f x≤g y)→(xs.map f).sum≤(ys.map g).sum
 |[], [],_,_=>Nat.le_refl _
 |x::xs,y::ys,hl,h=>by
  have h0:=h 0 x y rfl rfl
  have:=sum_le f g xs ys (by simpa using hl) fun i a b ha hb=>h (i+1) a b ha hb
  simp only [List.map_cons,List.sum_cons]
  omega
 |[],_::_,hl,_=>by simp at hl
 |_::_, [],hl,_=>by simp at hl

section
variable {H:Type} {enc:TypeId×Value→H} {P:Program} {w:World} {sp:Nat→Bool} {held:Bool} {bk:DataW H→Nat}

def Inh (w:World) (g:Nat):Prop:=g<w.heap.size

theorem cells_at {a:Addr} {n:Nat} {es:List Value} (h:w.cells? 0 a n=some es):es.length=n∧∀j v,es[j]? =some v→w.cell? (a.add j)=some v:=by
 obtain⟨_,hl,hc⟩:=World.cells?_some h
 refine⟨hl,fun j v hj=> ?_⟩
 have hjn:j<n:=by
  rcases Nat.lt_or_ge j es.length with g|g
  ·omega
  ·rw [List.getElem?_eq_none g] at hj;cases hj
 have:=hc j hjn
 rw [hj] at this
 exact this
theorem add_none {a:Addr} (h:a.spot=none) (n:Nat):a.add n=⟨a.block,a.off+n,none⟩:=by
 unfold Addr.add
 split
 ·rename_i h0
  subst h0
  cases a;simp at h;subst h;rfl
 ·rfl
theorem add_zero (a:Addr):a.add 0=a:=by simp [Addr.add]
theorem spot_none {a:Addr} {v:Value} (h:w.cell? a=some v):a.spot=none∧a.block<w.heap.size:=by
 unfold World.cell? at h
 split at h
 ·rename_i c _ _ hh
  cases hs:a.spot with
  |none=>exact⟨rfl,(Array.getElem?_eq_some_iff.1 hh).1⟩
  |some s=>rw [hs] at h;simp at h
 ·cases h

def FieldsRead (enc:TypeId×Value→H) (P:Program) (w:World) (sp:Nat→Bool) (held:Bool) (n:Nat) (fs:List Field) (cs:List Value) (xs:List (DataW H×List MemPlace)):Prop:=
 xs.length=fs.length∧∀(i:Nat) (f:Field),fs[i]? =some f→DataW.trod enc P w 0 sp held n f.type ((cs.drop f.offset).take (P.cellsOf f.type))=xs[i]?

theorem read_ok (hb:Bulk bk):∀(t:Ty) (s:TypeId⊕(List Field×Nat)),Deep P t s→(match s with
  |.inl T=>∀fuel cs d ps,DataW.trod enc P w 0 sp held fuel T cs=some (d,ps)→∃x:t.D,DRel w (Inh w) t x cs∧wt t x≤bk d
  |.inr (fs,o)=>∀n cs xs,FieldsRead enc P w sp held n fs cs xs→cs.length=o+t.size→∃x:t.D,DRel w (Inh w) t x (cs.drop o)∧wt t x≤(xs.map fun y=>bk y.1).sum)
 | .u8,.inl T,h=>fun fuel cs d ps hd=>by
  obtain⟨n,rfl,hx,hw⟩:=DataW.trod_int h hd
  have hn:0≤n∧n≤255:=by
   simp [Lit.wf,IntKind.min,IntKind.max,IntKind.signed,IntKind.bits] at hw
   omega
  refine⟨UInt8.ofNat n.toNat,?_,hb.one _⟩
  show [Value.int .u8 n]= [.int .u8 ((UInt8.ofNat n.toNat).toNat:Int)]
  rw [UInt8.toNat_ofNat_of_lt' (by show n.toNat<256;omega)]
  congr 2
  omega
 |.int k,.inl T,h=>fun fuel cs d ps hd=>by
  obtain⟨n,rfl,hx,hw⟩:=DataW.trod_int h hd
  refine⟨n,⟨rfl,?_⟩,hb.one _⟩
  simpa [Lit.wf] using hw
 |.bool,.inl T,h=>fun fuel cs d ps hd=>by
  obtain⟨b,rfl,hx⟩:=DataW.trod_bool h hd
  exact⟨b,rfl,hb.one _⟩
 |.str,.inl T,h=>fun fuel cs d ps hd=>by
  obtain⟨s,rfl,hx,hs⟩:=DataW.trod_string h hd
  obtain⟨rfl,rfl⟩:=Prod.mk.inj hx
  exact⟨s.data.toList,⟨rfl,hs⟩,hb.str _⟩
 | .sl t,.inl T,h=>fun fuel cs d ps hd=>by
  obtain⟨e,hu,hce,hpos,hdeep⟩:=h
  rcases DataW.trod_slice hu hd with⟨rfl,hx⟩|⟨a,len,cap,elems,rest,n,rfl,rfl,hx,_,h2,h3,h4,h5,_⟩
  ·exact⟨[],⟨none,0,rfl,Nat.le_refl _,Nat.zero_le _,fun h=>absurd rfl h⟩,hb.one _⟩
  ·obtain⟨rfl,_⟩:=Prod.mk.inj hx
   have key:∀i,i<len→∃x:t.D,(∃es,DRel w (Inh w) t x es∧es.length=t.size∧(∀j v,es[j]? =some v→w.cell? ((a.add (i*t.size)).add j)=some v))∧∃y,elems[i]? =some y∧wt t x≤bk y.1:=fun i hi=>by
    have h6:=h5 i hi
    obtain⟨y,hy⟩:∃y,elems[i]? =some y:=⟨_,List.getElem?_eq_getElem (by omega)⟩
    rw [hy,Option.bind_eq_some_iff] at h6
    obtain⟨es,he,ht⟩:=h6
    obtain⟨x,h7,h8⟩:=read_ok hb t (.inl e) hdeep n es y.1 y.2 ht
    rw [hce] at he
    obtain⟨hl,hc⟩:=cells_at he
    exact⟨x,⟨es,h7,hl,fun j v hj=>hc j v hj⟩,y,hy,h8⟩
   obtain⟨xs,hl,hxs⟩:=pick_list key
   refine⟨xs,⟨some a,cap,by rw [hl],by omega,h3,fun hne=> ?_⟩,?_⟩
   ·have h0:0<xs.length:=List.length_pos_iff.2 hne
    obtain⟨⟨es,_,hel,hcell⟩,_⟩:=hxs 0 xs[0] (List.getElem?_eq_getElem h0)
    have hs:=hcell 0 es[0] (List.getElem?_eq_getElem (by omega))
    rw [Nat.zero_mul,add_zero,add_zero] at hs
    have hs:=spot_none hs
    refine⟨a.block,a.off,?_,hs.2,fun i x hi=> ?_⟩
    ·have hsp:a.spot=none:=hs.1
     cases a;simp at hsp;subst hsp;rfl
    ·obtain⟨⟨es,h1,_,hcell⟩,_⟩:=hxs i x hi
     have hsp:a.spot=none:=hs.1
     exact⟨es,h1,fun j v hj=>by have:=hcell j v hj;rwa [add_none hsp,add_none rfl] at this⟩
   ·show(xs.map (wt t)).sum+1≤_
    have:=sum_le (wt t) (fun y:DataW H×List MemPlace=>bk y.1) xs elems (by omega) fun i x y hx hy=>by
     obtain⟨_,y',hy',hw⟩:=hxs i x hx
     rw [hy] at hy';cases hy';exact hw
    have h6:=hb.sl (elems.map (·.1)) (rest.map (·.1))
    rw [List.map_map] at h6
    exact Nat.le_trans (Nat.succ_le_succ this) h6
 | .arr n t,.inl T,h=>fun fuel cs d ps hd=>by
  obtain⟨e,hu,hcT,hce,hdeep⟩:=h
  obtain⟨ys,m,rfl,hx,hcl,hyl,hel⟩:=DataW.trod_array hu hd
  obtain⟨rfl,_⟩:=Prod.mk.inj hx
  have key:∀i,i<n→∃x:t.D,DRel w (Inh w) t x ((cs.drop (i*t.size)).take t.size)∧∃y,ys[i]? =some y∧wt t x≤bk y.1:=fun i hi=>by
   have h6:=hel i hi
   obtain⟨y,hy⟩:∃y,ys[i]? =some y:=⟨_,List.getElem?_eq_getElem (by omega)⟩
   rw [hy,hce] at h6
   obtain⟨x,h7,h8⟩:=read_ok hb t (.inl e) hdeep m _ y.1 y.2 h6
   exact⟨x,h7,y,hy,h8⟩
  obtain⟨xs,hl,hxs⟩:=pick_list key
  refine⟨xs,⟨hl,(List.range n).map fun i=>(cs.drop (i*t.size)).take t.size,?_,by simp,fun i x es hi he=> ?_⟩,?_⟩
  ·have hcut:∀(n:Nat) (cs:List Value),cs.length=n*t.size→cs=((List.range n).map fun i=>(cs.drop (i*t.size)).take t.size).flatten:=fun n=>by
    induction n with
    |zero=>intro cs h;simpa using h
    | succ n ih=>
     intro cs h
     rw [Nat.succ_mul] at h
     have h1:=ih (cs.drop t.size) (by rw [List.length_drop];omega)
     rw [List.range_succ_eq_map,List.map_cons,List.flatten_cons,List.map_map]
     have e:((fun i=>List.take t.size (List.drop (i*t.size) cs))∘Nat.succ)=fun i=>List.take t.size (List.drop (i*t.size) (cs.drop t.size)):=by
      funext i
      simp only [Function.comp,List.drop_drop]
      congr 2
      rw [Nat.succ_mul,Nat.add_comm]
     rw [e,←h1]
     simp
   exact hcut n cs (by rw [hcl,hcT])
  ·rw [List.getElem?_map] at he
   have hin:i<n:=by
    rcases Nat.lt_or_ge i xs.length with g|g
    ·omega
    ·rw [List.getElem?_eq_none g] at hi;cases hi
   rw [List.getElem?_range hin] at he
   simp only [Option.map_some,Option.some.injEq] at he
   subst he
   exact(hxs i x hi).1
  ·show(xs.map (wt t)).sum≤_
   have:=sum_le (wt t) (fun y:DataW H×List MemPlace=>bk y.1) xs ys (by omega) fun i x y hx hy=>by
    obtain⟨_,y',hy',hw⟩:=hxs i x hx
    rw [hy] at hy';cases hy';exact hw
   have h6:=hb.agg (ys.map (·.1))
   rw [List.map_map] at h6
   exact Nat.le_trans this h6
 | .cons t ts,.inl T,h=>fun fuel cs d ps hd=>by
  obtain⟨fs,f,fs',hu,hfs,hcT,hf0,hcf,hd1,hd2⟩:=h
  obtain⟨ys,m,rfl,hx,hcl,hyl,hel⟩:=DataW.trod_struct hu hd
  obtain⟨rfl,_⟩:=Prod.mk.inj hx
  have hread:∀(i:Nat) (g:Field),(f::fs')[i]? =some g→DataW.trod enc P w 0 sp held m g.type ((cs.drop g.offset).take (P.cellsOf g.type))=ys[i]? :=fun i g hg=>by
   rw [←hfs] at hg
   exact hel i g (by simpa using hg)
  cases ys with
  |nil=>
   have:fs.size=(f::fs').length:=by rw [←hfs];simp
   simp [this] at hyl
  | cons y ys=>
   have h0:=hread 0 f rfl
   rw [hf0,hcf] at h0
   obtain⟨x,hx1,hx2⟩:=read_ok hb t (.inl f.type) hd1 m _ y.1 y.2 h0
   obtain⟨x',hy1,hy2⟩:=read_ok hb ts (.inr (fs',t.size)) hd2 m cs ys ⟨by
    have:fs.size=(f::fs').length:=by rw [←hfs];simp
    rw [this] at hyl;simpa using hyl,fun i g hg=>hread (i+1) g hg⟩ (by rw [hcl,hcT])
   refine⟨(x,x'),⟨cs.take t.size,cs.drop t.size,(List.take_append_drop _ _).symm,hx1,hy1⟩,?_⟩
   show wt t x+wt ts x'≤_
   have h6:=hb.agg ((y::ys).map (·.1))
   rw [List.map_map] at h6
   refine Nat.le_trans ?_ h6
   simp only [List.map_cons,List.sum_cons,Function.comp]
   exact Nat.add_le_add hx2 hy2
 | .cons t ts,.inr (f::fs,o),h=>fun n cs xs hr hl=>by
  obtain⟨hf0,hcf,hd1,hd2⟩:=h
  obtain⟨h1,h2⟩:=hr
  cases xs with
  |nil=>simp at h1
  | cons y ys=>
   have h0:=h2 0 f rfl
   rw [hf0,hcf] at h0
   obtain⟨x,hx1,hx2⟩:=read_ok hb t (.inl f.type) hd1 n _ y.1 y.2 h0
   obtain⟨x',hy1,hy2⟩:=read_ok hb ts (.inr (fs,o+t.size)) hd2 n cs ys ⟨by simpa using h1,fun i g hg=>h2 (i+1) g hg⟩ (by rw [hl];show o+(t.size+ts.size)=_;omega)
   refine⟨(x,x'),⟨(cs.drop o).take t.size,(cs.drop o).drop t.size,(List.take_append_drop _ _).symm,hx1,?_⟩,?_⟩
   ·rw [List.drop_drop];exact hy1
   ·show wt t x+wt ts x'≤_
    simp only [List.map_cons,List.sum_cons]
    exact Nat.add_le_add hx2 hy2
 |.nil,.inr ([],o),h=>fun n cs xs hr hl=>by
  refine⟨(),?_,Nat.zero_le _⟩
  show cs.drop o= []
  exact List.drop_eq_nil_of_le (by rw [hl];exact Nat.le_refl _)
 |.cons _ _,.inr ([],_),h=>h.elim
 |.nil,.inl _,h=>h.elim
 |.nil,.inr (_::_,_),h=>h.elim
 |.u8,.inr _,h=>h.elim
 |.int _,.inr _,h=>h.elim
 |.bool,.inr _,h=>h.elim
 |.str,.inr _,h=>h.elim
 |.sl _,.inr _,h=>h.elim
 |.arr _ _,.inr _,h=>h.elim

abbrev c0 (w:World):Cx:=Cx.of (Inh w) ⟨[],none,0⟩
theorem st0 {G:List (Nat×V)} (hg:∀g x,lk G g=some x→VRel (c0 w) [] w x (.pointer (some ⟨g,0,none⟩))):St G w.heap.size (W0.all w) (c0 w) [] w where
 below:= .refl _ _
 xk:=
  {keep:=fun g o h=>by cases h
   siz:=fun g n h=>by cases h
   cnt:=trivial
   gh:=rfl
   l:=rfl
   dis:=fun _ _ h=>h
   xb:=fun _ h=>h.elim
   mks:=fun _ h=>h.elim
   gi:=fun _=>rfl}
 size:=Nat.le_refl _
 blk _:=trivial
 inj _ _ _ h:=by cases h
 own _ _ h:=by cases h
 imm _ h:=h
 sub _ h:=h.elim
 glob:=hg

theorem arg_ok (hb:Bulk bk) {t:Ty} {T:TypeId} {v:Value} {d:DataW H} {ps:List MemPlace} {r:Reach} {b:Nat} (hd:Deep P t (.inl T)) (hval:Value.okWide P w r b T v) (h:DataW.Trod enc P w 0 sp held T v d ps):
  ∃x:t.D,VRel (c0 w) [] w (dV t x) v∧wt t x≤bk d∧WfD t x:=by
 obtain⟨fuel,hf⟩:=h
 obtain⟨x,hx,hw⟩:=read_ok hb t (.inl T) hd fuel _ d ps hf
 refine⟨x,?_,hw,DRel.wf _ _ _ hx⟩
 cases t with
 |u8=>
  obtain⟨n,rfl⟩:=okWide_int hd hval
  have hx: [Value.int .u8 n]= [.int .u8 (x.toNat:Int)]:=hx
  simp only [List.cons.injEq,Value.int.injEq,true_and,and_true] at hx
  subst hx
  exact .u8 x
 |int k=>
  obtain⟨n,rfl⟩:=okWide_int hd hval
  obtain⟨hx,h1,h2⟩:=hx
  have hx: [Value.int k n]= [.int k x]:=hx
  simp only [List.cons.injEq,Value.int.injEq,true_and,and_true] at hx
  subst hx
  exact .int k _ h1 h2
 |bool=>
  obtain⟨n,rfl⟩:=okWide_bool hd hval
  have hx: [Value.bool n]= [.bool x]:=hx
  simp only [List.cons.injEq,Value.bool.injEq,and_true] at hx
  subst hx
  exact .b _ _ Iff.rfl
 |str=>
  obtain⟨s,rfl⟩:=okWide_string hd hval
  obtain⟨hx,h1⟩:=hx
  have hx: [Value.string s]= [.string ⟨x.toArray⟩]:=hx
  simp only [List.cons.injEq,Value.string.injEq,and_true] at hx
  subst hx
  exact .str x h1
 |sl t=>
  obtain⟨e,hu,_⟩:=hd
  obtain⟨a,len,cap,rfl⟩:=okWide_slice hu hval
  exact .sl false t x _ hx
 |nil=>exact hd.elim
 |fnT=>exact hd.elim
 |mapT t=>exact hd.elim
 |arr n t=>
  obtain⟨e,hu,_⟩:=hd
  unfold Value.okWide at hval
  rw [hu] at hval
  obtain⟨cs,rfl,hsz,_⟩:=hval
  have:=VRel.dat (c:=c0 w) (H:= []) (w:=w) false (.arr n t) x _ hx
  exact id (α:=VRel (c0 w) [] w (.dat false (.arr n t) x) (.agg cs)) (by simpa [Value.cells] using this)
 |cons t ts=>
  obtain⟨fs,f,fs',hu,_⟩:=hd
  obtain⟨cs,rfl,hsz⟩:=okWide_struct hu hval
  have hl:=DRel.length _ _ _ hx
  have:=getCells_ok (c:=c0 w) (H:= []) (fr:=false) hx (Ty.cons t ts).size 0 (by rw [Nat.zero_add,hl];exact Nat.le_refl _)
  rw [List.drop_zero,List.take_of_length_le (by rw [hl];exact Nat.le_refl _)] at this
  have:=VRel.agg _ _ this
  exact id (α:=VRel (c0 w) [] w (.agg (getCells false _ x 0 _)) (.agg cs)) (by simpa [Value.cells] using this)

theorem law_ok {E:Env} {f:FuncId} {fn:Func} {args:List V} {vs:List Value} (hk:Known P E) (hyl:E.yl=none) (hf:P.funcs[f]? =some fn) (hV:VRels (c0 w) [] w args vs)
  (hg:∀g x,lk E.glob g=some x→VRel (c0 w) [] w x (.pointer (some ⟨g,0,none⟩))) (hb:bodyP E fn [.k] args (.b True) []):
  Calls P f vs.toArray w fun e w'=>e= .returned (.bool true)∧Below w.heap.size w w':=by
 refine(body_ok hk hyl (fun _ _ _=>trivial) rfl (fun _ h=>h) hf (st0 hg) hV hb).mono ?_
 rintro e w' ⟨x,v,H',c',rfl,hq,hx,hst⟩
 obtain⟨c2,v2,H2,⟨_,rfl,_⟩,hst2,hx2⟩:=retK_ok hk.glob hk.noref hst hx hq
 cases hx2 with|b _ y hy=>
 have:y=true:=hy.2 trivial
 subst this
 exact⟨rfl,hst.below⟩

theorem tab_ok {g:Nat} {zs:List UInt8} (hsz:g<w.heap.size) (h:∀i,i<zs.length→w.cell? ⟨g,i,none⟩=some (.int .u8 ((zs.getD i 0).toNat:Int))) {n:Nat} (hn:zs.length=n):VRel (c0 w) [] w (.rp false (.arr n .u8) zs 0) (.pointer (some ⟨g,0,none⟩)):=by
 refine .rp false (.arr n .u8) zs 0 g 0 (zs.map fun z=> .int .u8 (z.toNat:Int)) hsz ⟨hn,zs.map fun z=> [.int .u8 (z.toNat:Int)],?_,by simp [hn],fun i x es hi he=> ?_⟩ fun j v hj=> ?_
 ·clear h hn
  induction zs with
  |nil=>rfl
  |cons z zs ih=>simp only [List.map_cons,List.flatten_cons,←ih];rfl
 ·rw [List.getElem?_map,hi] at he
  simp only [Option.map_some,Option.some.injEq] at he
  exact he.symm
 ·rw [List.getElem?_map] at hj
  rcases Nat.lt_or_ge j zs.length with g1|g1
  ·rw [List.getElem?_eq_getElem g1] at hj
   simp only [Option.map_some,Option.some.injEq] at hj
   have:=h j g1
   rw [List.getD_eq_getElem?_getD,List.getElem?_eq_getElem g1,Option.getD_some,hj] at this
   rwa [Nat.zero_add]
  ·rw [List.getElem?_eq_none g1] at hj;cases hj
end
end
end Go.Proofs.YtlmegkgkipjgbaaDoor.Vc

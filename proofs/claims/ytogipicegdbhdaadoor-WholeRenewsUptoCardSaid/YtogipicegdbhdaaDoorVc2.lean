/- Texts of this claim. -/
import Derived.Test.YtogipicegdbhdaaDoorVc1
import Derived.Laws.Tables
import Derived.Laws.BytesString
set_option linter.unusedVariables false
set_option linter.unusedSimpArgs false
namespace Go.Proofs.YtogipicegdbhdaaDoor.Vc
open Go Go.RowKit
section
theorem bG.info {P:Program} {T:TypeId} {t:Ty} (h:bG P T t):∃i z,P.info? T=some i∧i.zero=some z∧z.cells.toList=zc t∧i.size=t.size∧i.bytes≤65536:=h.1.open
theorem bG.sl {P:Program} {T:TypeId} {t:Ty} (h:bG P T (.sl t)):∃e,P.underlying T=some (.slice e)∧aN P e t∧0<t.size:=h.2
theorem bG.arr {P:Program} {T:TypeId} {n:Nat} {t:Ty} (h:bG P T (.arr n t)):∃e,P.underlying T=some (.array n e)∧aN P e t∧0<t.size∧(P.underlying e).map Cm=some (bh t):=h.2

theorem bQ:∀t:Ty,(zc t).length=t.size
 |.u8=>rfl| .int _=>rfl| .bool=>rfl| .str=>rfl| .sl _=>rfl| .nil=>rfl| .fnT=>rfl| .mapT _=>rfl
 |.cons t ts=>by simp [zc,Ty.size,bQ t,bQ ts]
 |.arr n t=>by
  show((List.replicate n (zc t)).flatten).length=n*t.size
  rw [bR t.size]
  ·simp
  ·intro e he;rw [(List.mem_replicate.1 he).2];exact bQ t

theorem cg {α:Type} (l:List α):∀(n i j:Nat) (v:α),i<n→l[j]? =some v→((List.replicate n l).flatten)[i*l.length+j]? =some v
 |0,i,j,v,h,_=>by omega
 | n+1,i,j,v,h,hj=>by
  have hlt:j<l.length:=(List.getElem?_eq_some_iff.1 hj).1
  rw [List.replicate_succ,List.flatten_cons]
  cases i with
  |zero=>rw [Nat.zero_mul,Nat.zero_add,List.getElem?_append_left hlt];exact hj
  |succ i=>
   rw [List.getElem?_append_right (by rw [Nat.succ_mul];omega)]
   rw [show(i+1)*l.length+j-l.length=i*l.length+j by rw [Nat.succ_mul];omega]
   exact cg l n i j v (by omega) hj

section
variable {E:Env} {P:Program} {G:List (Nat×V)} {base:Nat} {w0:W0} {c:Cx} {H:List Blk} {w:World} {σ:List V} {a:Act} {K:V→List V→List Blk→Prop} {o:Oper}

theorem az (hE:EnvOk P E) {T:TypeId} {t:Ty} (h:lk E.ty T=some t):bG P T t:=hE.ty T t h

theorem Ie (hE:EnvOk P E) (hst:St E.glob base w0 c H w) (hσ:VRels c H w σ a.tmps.toList) (T:TypeId) (ho:o.op= .alloc T) (h:a7 E σ H (.alloc T) K):
  a8 E.glob base w0 a.tmps.toList K P o a w:=by
 simp only [a7,aalloc] at h
 split at h
 ·rename_i n t hT
  have hok:=az hE hT
  obtain⟨i,z,hi,hz,hzc,hsz,_⟩:=hok.info
  cases hb:(Nat.blt 0 n&&Nat.blt 0 t.size) with
  |false=>rw [hb] at h;exact h.elim
  |true=>
  rw [hb] at h
  simp only [Bool.and_eq_true,Nat.blt_eq] at hb
  have h':=(aA _ _).1 h
  obtain⟨hst',hext⟩:=jk (f:=true) (t:=t) (xs:=List.replicate n t.dflt) hst z.cells T (by
    have:z.cells.toList.length=n*t.size:=by rw [hzc,bQ];rfl
    rw [List.length_replicate];simpa using Nat.le_of_eq this.symm) (fun k x hk=>by
    rw [List.getElem?_replicate] at hk
    split at hk
    ·rename_i hlt
     obtain rfl:t.dflt=x:=by simpa using hk
     refine⟨zc t,dM w _ t,fun j v hj=> ?_⟩
     have:=cg (zc t) n k j v hlt hj
     rw [bQ] at this
     rw [←Array.getElem?_toList,hzc]
     exact this
    ·simp at hk)
  refine .inl ⟨.pointer (some ⟨w.heap.size,0,none⟩),_,?_,_,σ,_,_,h',?_,hσ.ext hext,hst'⟩
  ·simp [execOp,ho,Instr.alloc,zeroValue,typeInfo,hi,hz,newVar,newRow]
  ·have:=VRel.ptr (c:=c.push H.length w.heap.size) (H:=H++ [.row true t (List.replicate n t.dflt)]) (w:=w.alloc (.cells z.cells T)) H.length t.size 0 0 w.heap.size n (by simp [aE,aP]) (by simp [Cx.push]) hb.1 hb.2
   simpa [bF] using this
 ·rename_i t _ hT
  have hok:=az hE hT
  obtain⟨i,z,hi,hz,hzc,hsz,_⟩:=hok.info
  cases hb:Nat.blt 0 t.size with
  |false=>rw [hb] at h;exact h.elim
  |true=>
  rw [hb] at h
  simp only [Nat.blt_eq] at hb
  have h':=(aA _ _).1 ((aA _ _).1 h)
  obtain⟨hst',hext⟩:=io (cs:=cK t) hst z.cells T (by rw [hzc];exact eY t) (by rw [hzc];exact aJ.one t _ _ (dM w (fun _=>True) t))
  have hl:(cK t).length=t.size:=by rw [(eY (c:=c) (H:=H) (w:=w) t).length,bQ]
  refine .inl ⟨.pointer (some ⟨w.heap.size,0,none⟩),_,?_,_,σ,_,_,h',?_,hσ.ext hext,hst'⟩
  ·simp [execOp,ho,Instr.alloc,zeroValue,typeInfo,hi,hz,newVar,newRow]
  ·have:=VRel.ptr (c:=c.push H.length w.heap.size) (H:=H++ [.cells (cK t)]) (w:=w.alloc (.cells z.cells T)) H.length 1 0 0 w.heap.size t.size (by simp [aE,aP,hl]) (by simp [Cx.push]) hb (by omega)
   simpa [bF] using this
 ·exact h.elim

theorem cP {fr:Bool}:∀(t:Ty) (x:t.D) (es:List Value) (o:Nat) (v:Value),aJ w (c.im fr) t x es→es[o]? =some v→VRel c H w (cj fr t x o) v
 |.u8,x,es,o,v,h,ho=>by
  have h':es= [_]:=h
  subst h'
  cases o with
  |zero=>simp at ho;subst ho;exact .u8 _
  |succ o=>simp at ho
 |.int k,x,es,o,v,h,ho=>by
  have h':es= [.int k x]:=h.1
  subst h'
  cases o with
  |zero=>simp at ho;subst ho;exact .int _ _ h.2.1 h.2.2
  |succ o=>simp at ho
 |.bool,x,es,o,v,h,ho=>by
  have h':es= [_]:=h
  subst h'
  cases o with
  |zero=>simp at ho;subst ho;exact .b _ _ Iff.rfl
  |succ o=>simp at ho
 |.str,x,es,o,v,h,ho=>by
  have h':es= [_]:=h.1
  subst h'
  cases o with
  |zero=>simp at ho;subst ho;exact .str _ h.2
  |succ o=>simp at ho
 |.sl t,x,es,o,v,h,ho=>by
  obtain⟨a,cap,h1,h2⟩:=h
  subst h1
  cases o with
  |zero=>simp at ho;subst ho;exact .sl _ _ _ _ ⟨a,cap,rfl,h2⟩
  |succ o=>simp at ho
 |.fnT,x,es,o,v,h,ho=>by
  have h':es= [_]:=h
  subst h'
  cases o with
  |zero=>simp at ho;subst ho;exact .nilfn
  |succ o=>simp at ho
 |.mapT _,x,es,o,v,h,ho=> .undef _
 |.nil,x,es,o,v,h,ho=>by
  have h':es= []:=h
  subst h'
  simp at ho
 | .cons t ts,x,es,o,v,h,ho=>by
  obtain⟨c1,c2,h1,h2,h3⟩:=h
  subst h1
  have hl:=aJ.length t _ _ h2
  unfold cj
  cases hb:Nat.blt o t.size with
  |true=>
   have hb':o<t.size:=by simpa [Nat.blt_eq] using hb
   rw [List.getElem?_append_left (by omega)] at ho
   exact cP t _ _ _ _ h2 ho
  | false=>
   have hb':t.size≤o:=by
    rcases Nat.lt_or_ge o t.size with g|g
    ·have:Nat.blt o t.size=true:=by rw [Nat.blt_eq];exact g
     rw [this] at hb;simp at hb
    ·exact g
   rw [List.getElem?_append_right (by omega),hl] at ho
   exact cP ts _ _ _ _ h3 ho
 | .arr n t,xs,es,o,v,h,ho=>by
  obtain⟨h0,ess,h1,h2,h3⟩:=h
  subst h1
  have hlen:∀e∈ess,e.length=t.size:=fun e he=>by
   obtain⟨i,hi⟩:=List.mem_iff_getElem?.1 he
   have hlt:i<ess.length:=(List.getElem?_eq_some_iff.1 hi).1
   have hx:(xs:List t.D)[i]? =some ((xs:List t.D)[i]'(by omega)):=List.getElem?_eq_getElem (by omega)
   exact aJ.length t _ _ (h3 i _ e hx hi)
  have hpos:0<t.size:=by
   rcases Nat.eq_zero_or_pos t.size with g|g
   ·have:=bR t.size ess hlen
    have hlt:=(List.getElem?_eq_some_iff.1 ho).1
    rw [this,g] at hlt;simp at hlt
   ·exact g
  have key:∀(ess:List (List Value)) (o:Nat),(∀e∈ess,e.length=t.size)→ess.flatten[o]? =some v→∃e,ess[o/t.size]? =some e∧e[o%t.size]? =some v:=by
   intro ess
   induction ess with
   |nil=>intro o _ h;simp at h
   | cons e ess ih=>
    intro o hl h
    rw [List.flatten_cons] at h
    have he:=hl e (by simp)
    rcases Nat.lt_or_ge o t.size with g|g
    ·rw [List.getElem?_append_left (by omega)] at h
     exact⟨e,by rw [Nat.div_eq_of_lt g];rfl,by rw [Nat.mod_eq_of_lt g];exact h⟩
    ·rw [List.getElem?_append_right (by omega),he] at h
     obtain⟨e',h1,h2⟩:=ih (o-t.size) (fun e he=>hl e (by simp [he])) h
     have d1:o/t.size=(o-t.size)/t.size+1:=by
      rw [Nat.div_eq_sub_div hpos g]
     have d2:o%t.size=(o-t.size)%t.size:=Nat.mod_eq_sub_mod g
     exact⟨e',by rw [d1];simpa using h1,by rw [d2];exact h2⟩
  obtain⟨e,k1,k2⟩:=key ess o hlen ho
  have hlt:o/t.size<ess.length:=(List.getElem?_eq_some_iff.1 k1).1
  have hx:(xs:List t.D)[o/t.size]? =some ((xs:List t.D)[o/t.size]'(by omega)):=List.getElem?_eq_getElem (by omega)
  have hd:=h3 _ _ e hx k1
  have hgd:(xs:List t.D).getD (o/t.size) t.dflt=(xs:List t.D)[o/t.size]'(by omega):=by simp [List.getD_eq_getElem?_getD,hx]
  unfold cj
  cases hb:Nat.beq t.size 1 with
  |true=>
   have h1:t.size=1:=Nat.eq_of_beq_eq_true hb
   simp only [h1,Nat.div_one,Nat.mod_one] at*
   simp only [cond_true]
   rw [hgd]
   exact cP t _ _ _ _ hd k2
  |false=>
   simp only [cond_false]
   rw [hgd]
   exact cP t _ _ _ _ hd k2

theorem df {fr:Bool} {t:Ty} {x:t.D} {es:List Value} (h:aJ w (c.im fr) t x es):∀(n o:Nat),o+n≤es.length→VRels c H w (ei fr t x o n) ((es.drop o).take n)
 |0,o,_=>by simpa [ei] using VRels.nil
 |n+1,o,hle=>by
  have hlt:o<es.length:=by omega
  rw [List.drop_eq_getElem_cons hlt,List.take_succ_cons]
  exact .cons _ _ _ _ (cP t x es o _ h (List.getElem?_eq_getElem hlt)) (df h n (o+1) (by omega))

theorem sn {T:TypeId} {t:Ty} (hok:bG P T t):(isAgg T).run P w= .ok (bh t) w:=by
 obtain⟨_,h⟩:=hok
 cases t<;>simp only at h
 ·simp [isAgg,bh,run_underlying h]
 ·simp [isAgg,bh,run_underlying h]
 ·simp [isAgg,bh,run_underlying h]
 ·simp [isAgg,bh,run_underlying h]
 ·obtain⟨e,h,_⟩:=h;simp [isAgg,bh,run_underlying h]
 ·obtain⟨e,h⟩:=h;simp [isAgg,bh,run_underlying h]
 ·obtain⟨e,h,_⟩:=h;simp [isAgg,bh,run_underlying h]
 ·obtain⟨e,h,_⟩:=h;simp [isAgg,bh,run_underlying h]
 ·obtain⟨e,r,v,h⟩:=h;simp [isAgg,bh,run_underlying h]
 ·obtain⟨e,r,h,_⟩:=h;simp [isAgg,bh,run_underlying h]

theorem aa {i j:Nat} (h:Nat.beq i j=true):i=j:=Nat.eq_of_beq_eq_true h
theorem eO {i j:Nat} (h:Nat.ble i j=true):i≤j:=Nat.le_of_ble_eq_true h
theorem kC {i j:Nat} (h:Nat.blt i j=true):i<j:=by rwa [Nat.blt_eq] at h
theorem aO {b:Bool} {p:Prop} (h:bif b then p else False):b=true∧p:=by
 cases b
 ·exact h.elim
 ·exact⟨rfl,h⟩

theorem kO (hE:EnvOk P E) {T:TypeId} {tt:Ty} (hT:lk E.ty T=some tt) (hagg:bh tt=true) {p:Operand} (ho:o.op= .load T p) {g q:Nat} (hae:a.eval p= .pointer (some ⟨g,q,none⟩))
  (es:List Value) (hlen:es.length=tt.size) (hc:∀(j:Nat) (v:Value),es[j]? =some v→w.cell? ⟨g,q+j,none⟩=some v):
  (execOp a.eval o).run P w= .ok (.value (.agg es.toArray)) w:=by
 have hok:=az hE hT
 obtain⟨i,z,hi,hz,hzc,hsz,_⟩:=hok.info
 have hl:=run_loadCells_list (P:=P) w ⟨g,q,none⟩ es (fun j v hj=>by rw [Addr.add_lit];exact hc j v hj)
 rw [hlen] at hl
 have hag:=sn (P:=P) (w:=w) hok
 rw [hagg] at hag
 simp [execOp,ho,hae,Instr.loadAt,Instr.sureAddr,loadVar,hag,sizeOf,typeInfo,hi,hsz,hl]

theorem pH {T:TypeId} {t:Ty} (hok:bG P T t) (hna:bh t=false) {p:Operand} (ho:o.op= .load T p) {ad:Addr} (hae:a.eval p= .pointer (some ad))
  {v:Value} (hc:w.cell? ad=some v):(execOp a.eval o).run P w= .ok (.value v) w:=by
 have hag:=sn (P:=P) (w:=w) hok
 rw [hna] at hag
 simp [execOp,ho,hae,Instr.loadAt,Instr.sureAddr,loadVar,hag,hc]

theorem jd (hst:St G base w0 c H w) {id g i:Nat} {fr:Bool} {t:Ty} {xs:List t.D} (hb:aD H id= .row fr t xs) (hr:c.ρ id=some g) (hi:i<xs.length):
  ∃es e cur,aJ w (c.im fr) t (xs.getD i t.dflt) es∧es.length=t.size∧w.heap[g]? =some (.cells cur e (0,0))∧∀(j:Nat) (v:Value),es[j]? =some v→cur[c.β id+(i*t.size+j)]? =some v:=by
 have hbk:=hst.blk id
 rw [hb] at hbk
 rcases hbk with⟨h1,h2⟩|⟨g',e',cur',hr',hg',hsz',hel⟩
 ·subst h2;simp at hi
 ·rw [hr] at hr';cases hr'
  have hx:xs[i]? =some (xs.getD i t.dflt):=by simp [List.getD_eq_getElem?_getD,List.getElem?_eq_getElem hi]
  obtain⟨es,h5,h6⟩:=hel i _ hx
  exact⟨es,e',cur',h5,aJ.length _ _ _ h5,hg',h6⟩

theorem v8 {M:Nat→Prop} {t:Ty} {cur:Array Value} {q:Nat}:∀(xs:List t.D) (k:Nat),(∀(i:Nat) (x:t.D),xs[i]? =some x→∃es:List Value,aJ w M t x es∧∀(j:Nat) (v:Value),es[j]? =some v→cur[q+((k+i)*t.size+j)]? =some v)→
  ∃ess:List (List Value),ess.length=xs.length∧(∀(i:Nat) (x:t.D) (es:List Value),xs[i]? =some x→ess[i]? =some es→aJ w M t x es)∧ess.flatten.length=xs.length*t.size∧∀(j:Nat) (v:Value),ess.flatten[j]? =some v→cur[q+(k*t.size+j)]? =some v
 |[],k,_=>⟨[],rfl,by simp,by simp,by simp⟩
 | x::xs,k,h=>by
  obtain⟨es,h1,h2⟩:=h 0 x rfl
  obtain⟨ess,g1,g2,g3,g4⟩:=v8 xs (k+1) fun i y hy=>by
   obtain⟨es,e1,e2⟩:=h (i+1) y (by simpa using hy)
   exact⟨es,e1,fun j v hj=>by rw [←e2 j v hj,show k+(i+1)=k+1+i by omega]⟩
  have hl:=aJ.length _ _ _ h1
  refine⟨es::ess,by simp [g1],fun i y ys hy hys=> ?_,by simp [g3,hl,Nat.succ_mul];omega,fun j v hj=> ?_⟩
  ·cases i with
   |zero=>
    obtain rfl:x=y:=by simpa using hy
    obtain rfl:es=ys:=by simpa using hys
    exact h1
   |succ i=>exact g2 i y ys (by simpa using hy) (by simpa using hys)
  ·rw [List.flatten_cons,List.getElem?_append] at hj
   split at hj
   ·have:=h2 j v hj;simpa using this
   ·rename_i hge
    have:=g4 _ v hj
    rw [←this];congr 1
    rw [Nat.succ_mul];omega

theorem eN (hst:St G base w0 c H w) {id g:Nat} {cs:List V} (hb:aD H id= .cells cs) (hr:c.ρ id=some g):
  ∃e cur,w.heap[g]? =some (.cells cur e (0,0))∧(c.β id=0∧cs.length≤cur.size)∧∀j,j<cs.length→∃v,cur[c.β id+j]? =some v∧v.oneCell'=true∧VRel c H w (aL cs j) v:=by
 have hbk:=hst.blk id
 rw [hb] at hbk
 rcases hbk with⟨g',e,cur,hr',hg,hsz,hel⟩|⟨_,h1,_⟩
 ·rw [hr] at hr';cases hr'
  exact⟨e,cur,hg,hsz,hel⟩
 ·rw [hr] at h1;cases h1

theorem jG {cs:List V} {cur:Array Value} {q:Nat} (hel:∀j,j<cs.length→∃v,cur[q+j]? =some v∧v.oneCell'=true∧VRel c H w (aL cs j) v):
  ∀(n i:Nat),i+n≤cs.length→∃es:List Value,es.length=n∧VRels c H w ((cs.drop i).take n) es∧∀(j:Nat) (v:Value),es[j]? =some v→cur[q+(i+j)]? =some v
 |0,i,_=>⟨[],rfl,by simpa using VRels.nil,by simp⟩
 | n+1,i,hle=>by
  obtain⟨es,h1,h2,h3⟩:=jG hel n (i+1) (by omega)
  obtain⟨v,h4,_,h5⟩:=hel i (by omega)
  have hlt:i<cs.length:=by omega
  refine⟨v::es,by simp [h1],?_,fun j u hj=> ?_⟩
  ·rw [List.drop_eq_getElem_cons hlt,List.take_succ_cons]
   have:aL cs i=cs[i]:=by rw [fW];simp [List.getD_eq_getElem?_getD,hlt]
   exact .cons _ _ _ _ (this▸h5) h2
  ·cases j with
   |zero=>simp at hj;subst hj;exact h4
   |succ j=>rw [show i+(j+1)=i+1+j by omega];exact h3 j u (by simpa using hj)

theorem dF {k:V→Prop} {x:V} {v:Value} (hx:VRel c H w x v) (hK:k x) (hr:(execOp a.eval o).run P w= .ok (.value v) w):∃x v,k x∧VRel c H w x v∧(execOp a.eval o).run P w= .ok (.value v) w:=⟨x,v,hK,hx,hr⟩

theorem wj (hE:EnvOk P E) (hst:St E.glob base w0 c H w) {k:V→Prop} (T:TypeId) (p:Operand) (ho:o.op= .load T p) {vp:V} {xp:Value} (hae:a.eval p=xp) (hp:VRel c H w vp xp) (h:aload E H T vp k):
  ∃x v,k x∧VRel c H w x v∧(execOp a.eval o).run P w= .ok (.value v) w:=by
 unfold aload at h
 split at h
 ·rename_i n te hT
  split at h
  ·rename_i fr t' x o'
   obtain⟨hb,h'⟩:=aO h
   simp only [Bool.and_eq_true,decide_eq_true_eq] at hb
   obtain⟨rfl,h0⟩:=hb
   have h0:=aa h0
   subst h0
   cases hp with|rp _ _ _ _ g p0 es hM hd hc=>
   have hl:=aJ.length _ _ _ hd
   exact dF (VRel.dat fr _ x es hd) h' (kO hE hT rfl ho hae es hl fun j v hj=>by simpa using hc j v hj)
  ·rename_i id z i o'
   cases hp with|ptr _ _ _ _ g m hs hr hi ho'=>
   split at h
   ·rename_i fr t' xs hb
    simp only [aE,hb,Option.some.injEq,Prod.mk.injEq] at hs
    obtain⟨rfl,rfl⟩:=hs
    cases hc1:(decide (t'= .arr n te)&&Nat.beq o' 0) with
    |true=>
     rw [hc1] at h
     simp only [Bool.and_eq_true,decide_eq_true_eq] at hc1
     obtain⟨rfl,h0⟩:=hc1
     have h0:=aa h0
     subst h0
     obtain⟨es,e,cur,hd,hl,hg,hc⟩:=jd hst hb hr hi
     refine dF (VRel.dat fr _ _ es hd) h (kO hE hT rfl ho hae es hl fun j v hj=> ?_)
     rw [Go.cell_of_row w g _ cur e (0,0) hg]
     have:=hc j v hj
     simpa [Nat.add_assoc] using this
    | false=>
     rw [hc1] at h
     obtain⟨hb',hlen,h'⟩:=aO h
     simp only [Bool.and_eq_true,decide_eq_true_eq] at hb'
     obtain⟨⟨rfl,h1⟩,h0⟩:=hb'
     have h1:=aa h1
     have h0:=aa h0
     subst h1 h0
     have hbk:=hst.blk id
     rw [hb] at hbk
     rcases hbk with⟨h2,_⟩|⟨g',e,cur,hr',hg,hsz,hel⟩
     ·rw [hr] at h2;cases h2
     ·rw [hr] at hr';cases hr'
      obtain⟨ess,g1,g2,g3,g4⟩:=v8 (cur:=cur) xs 0 fun i x hx=>by
       obtain⟨es,e1,e2⟩:=hel i x hx
       exact⟨es,e1,fun j v hj=>by simpa using e2 j v hj⟩
      have hd:aJ w (c.im fr) (.arr n t') xs ess.flatten:=⟨hlen,ess,rfl,by rw [g1,hlen],g2⟩
      refine dF (VRel.dat fr (.arr n t') xs _ hd) h' (kO hE hT rfl ho hae _ (aJ.length _ _ _ hd) fun j v hj=> ?_)
      rw [Go.cell_of_row w g _ cur e (0,0) hg]
      simpa using g4 j v hj
   ·exact h.elim
  ·exact h.elim
 ·exact h.elim
 ·rename_i t ts hT
  split at h
  ·rename_i fr t' x o'
   obtain⟨hb,h'⟩:=aO h
   have hle:=eO hb
   have h'':=(aA _ _).1 h'
   cases hp with|rp _ _ _ _ g p0 es hM hd hc=>
   have hl:=aJ.length _ _ _ hd
   have hrel:=df (H:=H) hd (Ty.cons t ts).size o' (by omega)
   have hlen:((es.drop o').take (Ty.cons t ts).size).length=(Ty.cons t ts).size:=by rw [List.length_take,List.length_drop];omega
   refine dF (VRel.agg _ _ hrel) h'' (kO hE hT rfl ho hae _ hlen fun j v hj=> ?_)
   rw [List.getElem?_take] at hj
   split at hj
   ·rw [List.getElem?_drop] at hj
    have:=hc _ v hj
    rw [Nat.add_assoc];exact this
   ·simp at hj
  ·rename_i id z i o'
   cases hp with|ptr _ _ _ _ g m hs hr hi ho'=>
   split at h
   ·rename_i cs hb
    simp only [aE,hb,Option.some.injEq,Prod.mk.injEq] at hs
    obtain⟨rfl,rfl⟩:=hs
    obtain⟨hb',h'⟩:=aO h
    simp only [Bool.and_eq_true] at hb'
    have h0:=aa hb'.1
    have hle:=eO hb'.2
    subst h0
    have h'':=(aA _ _).1 h'
    obtain⟨e,cur,hg,hsz,hel⟩:=eN hst hb hr
    obtain⟨es,h1,h2,h3⟩:=jG hel (Ty.cons t ts).size i hle
    refine dF (VRel.agg _ _ h2) h'' (kO hE hT rfl ho hae _ h1 fun j v hj=> ?_)
    rw [Go.cell_of_row w g _ cur e (0,0) hg]
    simpa [Nat.add_assoc] using h3 j v hj
   ·rename_i fr t' xs hb
    simp only [aE,hb,Option.some.injEq,Prod.mk.injEq] at hs
    obtain⟨rfl,rfl⟩:=hs
    obtain⟨hb',h'⟩:=aO h
    have hle:=eO hb'
    have h'':=(aA _ _).1 h'
    obtain⟨es,e,cur,hd,hl,hg,hc⟩:=jd hst hb hr hi
    have hrel:=df (H:=H) hd (Ty.cons t ts).size o' (by omega)
    have hlen:((es.drop o').take (Ty.cons t ts).size).length=(Ty.cons t ts).size:=by rw [List.length_take,List.length_drop];omega
    refine dF (VRel.agg _ _ hrel) h'' (kO hE hT rfl ho hae _ hlen fun j v hj=> ?_)
    rw [List.getElem?_take] at hj
    split at hj
    ·rw [List.getElem?_drop] at hj
     have:=hc _ v hj
     rw [Go.cell_of_row w g _ cur e (0,0) hg];simpa [Nat.add_assoc] using this
    ·simp at hj
   ·exact h.elim
  ·exact h.elim
 ·rename_i t ht1 ht2 ht3 hT
  have hna:bh t=false:=by
   cases t<;>first|rfl|exact(ht1 _ _ rfl).elim|exact(ht2 rfl).elim|exact(ht3 _ _ rfl).elim
  have hok:=az hE hT
  split at h
  ·rename_i fr t' x o'
   obtain⟨hb,h'⟩:=aO h
   have hlt:=kC hb
   have h'':=(aR _ _).1 h'
   cases hp with|rp _ _ _ _ g p0 es hM hd hc=>
   have hl:=aJ.length _ _ _ hd
   have hget:es[o']? =some (es[o']'(by omega)):=List.getElem?_eq_getElem (by omega)
   exact dF (cP _ _ _ _ _ hd hget) h'' (pH hok hna ho hae (hc _ _ hget))
  ·rename_i id z i o'
   cases hp with|ptr _ _ _ _ g m hs hr hi ho'=>
   split at h
   ·rename_i fr t' xs hb
    simp only [aE,hb,Option.some.injEq,Prod.mk.injEq] at hs
    obtain⟨rfl,rfl⟩:=hs
    have h'':=(aR _ _).1 h
    obtain⟨es,e,cur,hd,hl,hg,hc⟩:=jd hst hb hr hi
    have hget:es[o']? =some (es[o']'(by omega)):=List.getElem?_eq_getElem (by omega)
    refine dF (cP _ _ _ _ _ hd hget) h'' (pH hok hna ho hae ?_)
    rw [Go.cell_of_row w g _ cur e (0,0) hg]
    exact hc _ _ hget
   ·rename_i cs hb
    simp only [aE,hb,Option.some.injEq,Prod.mk.injEq] at hs
    obtain⟨rfl,rfl⟩:=hs
    obtain⟨hb',h'⟩:=aO h
    have h0:=aa hb'
    subst h0
    have h'':=(aR _ _).1 h'
    obtain⟨e,cur,hg,hsz,hel⟩:=eN hst hb hr
    obtain⟨v,h1,_,h2⟩:=hel i hi
    refine dF h2 h'' (pH hok hna ho hae ?_)
    rw [Go.cell_of_row w g _ cur e (0,0) hg]
    simpa using h1
   ·exact h.elim
  ·have h'':=(aR _ _).1 h
   cases hp with|rb _ v g p0 hM hc hx=>
   exact dF hx h'' (pH hok hna ho hae hc)
  ·exact h.elim
 ·exact h.elim

theorem Nl (hE:EnvOk P E) (hst:St E.glob base w0 c H w) (hσ:VRels c H w σ a.tmps.toList) (T:TypeId) (p:Operand) (ho:o.op= .load T p) (h:a7 E σ H (.load T p) K):
  a8 E.glob base w0 a.tmps.toList K P o a w:=by
 simp only [a7] at h
 obtain⟨x,v,h1,h2,h3⟩:=wj (P:=P) (a:=a) hE hst T p ho rfl (bK hst hσ p) h
 exact aK hst hσ h2 h1 h3
end
end
section
section
variable {E:Env} {P:Program} {G:List (Nat×V)} {base:Nat} {w0:W0} {c:Cx} {H:List Blk} {w:World} {σ:List V} {a:Act} {K:V→List V→List Blk→Prop} {o:Oper}

theorem cN (w:World) (g:Nat) (cur cur':Array Value) (e:TypeId) (hg:w.heap[g]? =some (.cells cur e (0,0))):
  (w.setRow g cur').heap[g]? =some (.cells cur' e (0,0))∧(∀k,k≠g→(w.setRow g cur').heap[k]? =w.heap[k]?):=
 ⟨setRow_heap w g cur cur' e _ hg,fun k hk=>setRow_other w g k cur' hk⟩

theorem cR {w:World} {g:Nat} {cur':Array Value} (hb:base≤g):Below base w (w.setRow g cur'):=
 ⟨rfl,rfl,rfl,by simp,fun k hk=>setRow_other w g k cur' (by omega)⟩

theorem jZ {T:TypeId} {t:Ty} (hok:bG P T t) {v:Value} {g q:Nat} {cur:Array Value} {e:TypeId} (hg:w.heap[g]? =some (.cells cur e (0,0))) (hsz:v.cells.size=t.size) (hle:q+v.cells.size≤cur.size)
  (hone:∀u∈v.cells.toList,u.oneCell'=true):
  (Instr.storeAt T (.pointer (some ⟨g,q,none⟩)) v).run P w= .ok () (w.setRow g (cur.toList.take q++v.cells.toList++cur.toList.drop (q+v.cells.size)).toArray):=by
 obtain⟨i,z,hi,hz,hzc,hs,_⟩:=hok.info
 have hst:=run_storeCells_at P g q e v.cells.toList 0 cur w hg (by simpa using hle) hone
 simp only [Nat.add_zero] at hst
 have h0:storeCells ⟨g,q,none⟩ v.cells.toList 0=storeCells (⟨g,q,none⟩:Addr) v.cells.toList:=rfl
 simp [Instr.storeAt,Instr.sureAddr,storeVar,sizeOf,typeInfo,hi,hs,hsz,hst]

theorem lR {x:V} {v:Value} (h:VRel c H w x v) (hc:x.isCell=true):v.oneCell'=true∧v.cells= #[v]:=by
 cases h<;>first|(simp [V.isCell] at hc;done)|skip
 case sl fr t xs h=>obtain⟨a,cap,h1,_⟩:=h;simp only [List.cons.injEq,and_true] at h1;subst h1;simp [Value.oneCell',Value.cells]
 all_goals simp [Value.oneCell',Value.cells]

theorem eA:∀{xs:List V} {vs:List Value},VRels c H w xs vs→b7 xs=true→∀u∈vs,u.oneCell'=true
 |_,_,.nil,_=>by simp
 |_,_,.cons x v xs vs h hs,hc=>by
  simp only [b7,Bool.and_eq_true] at hc
  intro u hu
  rcases List.mem_cons.1 hu with rfl|hu
  ·exact(lR h hc.1).1
  ·exact eA hs hc.2 u hu

theorem vw:∀(vs:List V) (cs:List V) (o j:Nat),o+vs.length≤cs.length→aL (gW cs o vs) j=if o≤j∧j<o+vs.length then aL vs (j-o) else aL cs j
 |[],cs,o,j,_=>by simp [gW];omega
 | v::vs,cs,o,j,h=>by
  have hl:(bg cs o v).length=cs.length:=by rw [gV];simp
  simp only [List.length_cons] at h
  rw [gW,vw vs (bg cs o v) (o+1) j (by rw [hl];omega)]
  by_cases h1:o+1≤j∧j<o+1+vs.length
  ·rw [if_pos h1,if_pos (by simp;omega)]
   rw [show j-o=(j-(o+1))+1 by omega];rfl
  ·rw [if_neg h1]
   by_cases h2:j=o
   ·subst h2
    rw [if_pos (by simp)]
    rw [gV,fW]
    simp [show j<cs.length by omega,aL]
   ·rw [if_neg (by simp;omega)]
    rw [gV,fW,fW]
    simp [List.getElem?_set,Ne.symm h2]
theorem fU:∀(vs:List V) (cs:List V) (o:Nat),(gW cs o vs).length=cs.length
 |[],cs,o=>rfl
 |v::vs,cs,o=>by rw [gW,fU vs,gV];simp

theorem oJ (hE:EnvOk P E) (hst:St E.glob base w0 c H w) (hσ:VRels c H w σ a.tmps.toList) {T:TypeId} {t:Ty} (hT:lk E.ty T=some t) {p x:Operand} (ho:o.op= .store T p x)
  {id i:Nat} {cs vs:List V} (hb:aD H id= .cells cs) {g:Nat} (hr:c.ρ id=some g) (hae:a.eval p= .pointer (some ⟨g,c.β id+i,none⟩))
  (hrel:VRels c H w vs (a.eval x).cells.toList) (hall:b7 vs=true) (hlen:vs.length=t.size) (hle:i+vs.length≤cs.length) (h:K .undef σ (aH H id (.cells (gW cs i vs)))):
  a8 E.glob base w0 a.tmps.toList K P o a w:=by
 obtain⟨e,cur,hg,hsz,hel⟩:=eN hst hb hr
 obtain⟨q,hq⟩:∃q,q=c.β id+i:=⟨_,rfl⟩
 rw [←hq] at hae
 have hl:(a.eval x).cells.size=vs.length:=by have:=hrel.length;simpa using this.symm
 have hrun:=jZ (P:=P) (w:=w) (az hE hT) (v:=a.eval x) (q:=q) hg (hl.trans hlen) (by omega) (eA hrel hall)
 obtain⟨cur',hcur'⟩:∃cur',(cur.toList.take q++(a.eval x).cells.toList++cur.toList.drop (q+(a.eval x).cells.size)).toArray=cur':=⟨_,rfl⟩
 rw [hcur'] at hrun
 have hsz':cur'.size=cur.size:=by
  rw [←hcur'];simp only [List.size_toArray,List.length_append,List.length_take,List.length_drop,Array.length_toList,hl];omega
 have hget:∀j,cur'[j]? =if q≤j∧j<q+vs.length then(a.eval x).cells[j-q]? else cur[j]? :=fun j=>by
  rw [←hcur',List.getElem?_toArray]
  by_cases h1:j<q
  ·rw [if_neg (by omega),List.append_assoc,List.getElem?_append_left (by simp;omega),List.getElem?_take,if_pos h1];simp
  ·by_cases h2:j<q+vs.length
   ·rw [if_pos (by omega),List.append_assoc,List.getElem?_append_right (by simp;omega),List.getElem?_append_left (by simp;omega)]
    simp [Nat.min_eq_left (show q≤cur.size by omega)]
   ·rw [if_neg (by omega),List.getElem?_append_right (by simp;omega),List.getElem?_drop]
    have:q+(a.eval x).cells.size+(j-(List.take q cur.toList++(a.eval x).cells.toList).length)=j:=by
     simp [Nat.min_eq_left (show q≤cur.size by omega)];omega
    rw [this];simp
 obtain⟨hw1,hw2⟩:=cN w g cur cur' e hg
 have hshape:aE (aH H id (.cells (gW cs i vs))) id=aE H id:=by
  have hidl:=(hst.own id g hr).2.2.2
  simp [aE,aG,hidl,hb,fU]
 have hext:=hst.ext_upd id g (.cells (gW cs i vs)) e cur cur' hr hg hsz' hw1 hw2 hshape
 refine .inr (.inl ⟨w.setRow g cur',?_,.undef,σ,_,c,h,.undef _,hσ.ext hext,?_⟩)
 ·simp [execOp,ho,hae,hrun]
 ·refine hst.upd id g _ e cur cur' hr hg hsz' hw1 hw2 hshape (cR (hst.own id g hr).1) (.inl ⟨g,e,cur',hr,hw1,by rw [fU,hsz'];exact hsz,fun j hj=> ?_⟩)
  rw [fU] at hj
  rw [hget,vw vs cs i j hle]
  by_cases h1:i≤j∧j<i+vs.length
  ·rw [if_pos (by omega),if_pos h1,show c.β id+j-q=j-i by omega]
   have hj':j-i<(a.eval x).cells.size:=by omega
   refine⟨(a.eval x).cells[j-i],Array.getElem?_eq_getElem hj',eA hrel hall _ (by simp),?_⟩
   have:=(hrel.get (j-i)).ext hext
   simpa [List.getD_eq_getElem?_getD,hj'] using this
  ·rw [if_neg (by omega),if_neg h1]
   obtain⟨v,g1,g2,g3⟩:=hel j hj
   exact⟨v,g1,g2,g3.ext hext⟩

theorem pG {t:Ty} {v:V} {x:Value} {K:t.D→Prop} (h:setD t v K) (hx:VRel c H w v x) (M:Nat→Prop):∃y,K y∧aJ w M t y [x]∧t.size=1:=by
 unfold setD at h
 split at h
 ·cases hx;exact⟨_,h,rfl,rfl⟩
 ·obtain⟨rfl,h⟩:=h
  cases hx with|int _ _ h1 h2=>exact⟨_,h,⟨rfl,h1,h2⟩,rfl⟩
 ·rename_i p _
  cases hx with|b _ b hb=>
  refine⟨_,h,?_,rfl⟩
  have:b= @decide p (Classical.propDecidable p):=by
   rw [Bool.eq_iff_iff,hb];exact(@decide_eq_true_iff p (Classical.propDecidable p)).symm
  rw [this];rfl
 ·cases hx with|str _ h1=>exact⟨_,h,⟨rfl,h1⟩,rfl⟩
 ·exact h.elim

theorem iG {u:Value} (h:u.oneCell'=true):u.cells= #[u]:=by cases u<;>first|rfl|simp [Value.oneCell'] at h

theorem oZ {α:Type} (n:Nat) (v:α):∀(ess:List (List α)) (k j:Nat),(∀e∈ess,e.length=n)→j<n→k<ess.length→ess.flatten.set (k*n+j) v=(ess.set k ((ess.getD k []).set j v)).flatten
 |[],k,j,_,_,hk=>by simp at hk
 |e::ess,0,j,hl,hj,_=>by
  have he:=hl e (by simp)
  simp only [Nat.zero_mul,Nat.zero_add,List.flatten_cons,List.set_cons_zero,List.getD_cons_zero]
  rw [List.set_append_left _ _ (by omega)]
 | e::ess,k+1,j,hl,hj,hk=>by
  have he:=hl e (by simp)
  simp only [List.flatten_cons,List.set_cons_succ,List.getD_cons_succ]
  rw [List.set_append_right _ _ (by rw [Nat.succ_mul];omega),show(k+1)*n+j-e.length=k*n+j by rw [Nat.succ_mul];omega,
   oZ n v ess k j (fun e h=>hl e (by simp [h])) hj (by simpa using hk)]

theorem pF {M:Nat→Prop} {v:V} {u:Value} (hx:VRel c H w v u):∀(t:Ty) (x:t.D) (o:Nat) (es:List Value) (K:t.D→Prop),setF t x o v K→aJ w M t x es→o<t.size→∃y,K y∧u.oneCell'=true∧∀es,aJ w M t x es→aJ w M t y (es.set o u)
 | .cons t ts,x,o,es,K,h,hd,ho=>by
  obtain⟨c1,c2,rfl,h1,h2⟩:=hd
  unfold setF at h
  cases hb:Nat.blt o t.size with
  |true=>
   rw [hb] at h
   have hlt:=kC hb
   obtain⟨y,k1,k3,k2⟩:=pF hx t x.1 o c1 _ h h1 hlt
   refine⟨_,k1,k3,fun es hd=> ?_⟩
   obtain⟨c1,c2,rfl,h1,h2⟩:=hd
   have hl1:=aJ.length _ _ _ h1
   exact⟨_,c2,by rw [List.set_append_left _ _ (by omega)],k2 _ h1,h2⟩
  | false=>
   rw [hb] at h
   have hge:t.size≤o:=by
    rcases Nat.lt_or_ge o t.size with hlt|hge
    ·rw [←Nat.blt_eq] at hlt;rw [hlt] at hb;cases hb
    ·exact hge
   obtain⟨y,k1,k3,k2⟩:=pF hx ts x.2 (o-t.size) c2 _ h h2 (by simp only [Ty.size] at ho;omega)
   refine⟨_,k1,k3,fun es hd=> ?_⟩
   obtain⟨c1,c2,rfl,h1,h2⟩:=hd
   have hl1:=aJ.length _ _ _ h1
   exact⟨c1,_,by rw [List.set_append_right _ _ (by omega),hl1],h1,k2 _ h2⟩
 | .arr n t,xs,o,es,K,h,hd,ho=>by
  have hpos:0<t.size:=by
   rcases Nat.eq_zero_or_pos t.size with h0|h0
   ·simp [Ty.size,h0] at ho
   ·exact h0
  have key:∀(k j:Nat) (K:List t.D→Prop),j<t.size→k<n→setF t ((xs:List t.D).getD k t.dflt) j v (fun y=>K ((xs:List t.D).set k y))→
    ∃y,K y∧u.oneCell'=true∧∀es,aJ w M (.arr n t) xs es→aJ w M (.arr n t) y (es.set (k*t.size+j) u):=fun k j K hj hk h=>by
   obtain⟨hn,ess,_,hl,hel⟩:=hd
   have hkx:k<(xs:List t.D).length:=by omega
   have e1:(xs:List t.D)[k]? =some ((xs:List t.D).getD k t.dflt):=by simp [List.getD_eq_getElem?_getD,List.getElem?_eq_getElem hkx]
   obtain⟨y,k1,k3,k2⟩:=pF hx t _ j _ _ h (hel k _ _ e1 (List.getElem?_eq_getElem (show k<ess.length by omega))) hj
   refine⟨_,k1,k3,fun es hd=> ?_⟩
   obtain⟨hn,ess,rfl,hl,hel⟩:=hd
   have hlens:∀e∈ess,e.length=t.size:=fun e he=>by
    obtain⟨i,hi⟩:=List.mem_iff_getElem?.1 he
    have hlt:i<ess.length:=(List.getElem?_eq_some_iff.1 hi).1
    exact aJ.length _ _ _ (hel i _ e (List.getElem?_eq_getElem (by omega)) hi)
   have hk':k<ess.length:=by omega
   have e2:ess[k]? =some (ess.getD k []):=by simp [List.getD_eq_getElem?_getD,List.getElem?_eq_getElem hk']
   refine⟨by rw [List.length_set];exact hn,_,oZ t.size u ess k j hlens hj hk',by rw [List.length_set];exact hl,fun i z es hz hes=> ?_⟩
   rw [List.getElem?_set] at hz hes
   by_cases hki:k=i
   ·subst hki
    rw [if_pos rfl,if_pos (by omega)] at hz hes
    obtain rfl:=Option.some.inj hz
    obtain rfl:=Option.some.inj hes
    exact k2 _ (hel k _ _ e1 e2)
   ·rw [if_neg hki] at hz hes
    exact hel i z es hz hes
  unfold setF at h
  cases hb:Nat.beq t.size 1 with
  |true=>
   rw [hb] at h
   have h1:=aa hb
   have ho':o<n:=by simp only [Ty.size,h1] at ho;omega
   have:=key o 0 K (by omega) ho' h
   rw [h1] at this
   simpa using this
  |false=>
   rw [hb] at h
   have ho':o<n*t.size:=ho
   have:=key (o/t.size) (o%t.size) K (Nat.mod_lt _ hpos) ((Nat.div_lt_iff_lt_mul hpos).2 ho') h
   rwa [Nat.mul_comm,Nat.div_add_mod] at this
 |.u8,x,o,es,K,h,hd,ho=>by
  obtain rfl:o=0:=by simp [Ty.size] at ho;exact ho
  obtain⟨y,h1,h2,_⟩:=pG (t:= .u8) h hx M
  refine⟨y,h1,aJ.one _ _ _ h2 u (by simp),fun es hd=> ?_⟩
  have:=aJ.length _ _ _ hd
  match es,this with| [e],_=>exact h2
 |.int k,x,o,es,K,h,hd,ho=>by
  obtain rfl:o=0:=by simp [Ty.size] at ho;exact ho
  obtain⟨y,h1,h2,_⟩:=pG (t:=(.int k)) h hx M
  refine⟨y,h1,aJ.one _ _ _ h2 u (by simp),fun es hd=> ?_⟩
  have:=aJ.length _ _ _ hd
  match es,this with| [e],_=>exact h2
 |.bool,x,o,es,K,h,hd,ho=>by
  obtain rfl:o=0:=by simp [Ty.size] at ho;exact ho
  obtain⟨y,h1,h2,_⟩:=pG (t:= .bool) h hx M
  refine⟨y,h1,aJ.one _ _ _ h2 u (by simp),fun es hd=> ?_⟩
  have:=aJ.length _ _ _ hd
  match es,this with| [e],_=>exact h2
 |.str,x,o,es,K,h,hd,ho=>by
  obtain rfl:o=0:=by simp [Ty.size] at ho;exact ho
  obtain⟨y,h1,h2,_⟩:=pG (t:= .str) h hx M
  refine⟨y,h1,aJ.one _ _ _ h2 u (by simp),fun es hd=> ?_⟩
  have:=aJ.length _ _ _ hd
  match es,this with| [e],_=>exact h2
 |.nil,x,o,es,K,h,hd,ho=>by simp [setF] at h
 |.sl t,x,o,es,K,h,hd,ho=>by simp [setF] at h
 |.fnT,x,o,es,K,h,hd,ho=>by simp [setF] at h
 |.mapT t,x,o,es,K,h,hd,ho=>by simp [setF] at h

theorem kF {H0:List Blk} {t:Ty} {v:V} {x:Value} {K:t.D→Prop} (h:asD H0 t v K) (hx:VRel c H w v x) (hs:∀t',t≠ .sl t') (M:Nat→Prop):∃y,K y∧aJ w M t y [x]∧t.size=1:=by
 unfold asD at h
 split at h
 ·split at h
  ·cases hx;exact⟨_,h,rfl,rfl⟩
  ·exact h.elim
 ·split at h
  ·obtain⟨rfl,h⟩:=h
   cases hx with|int _ _ h1 h2=>exact⟨_,h,⟨rfl,h1,h2⟩,rfl⟩
  ·exact h.elim
 ·split at h
  ·cases hx with|str _ h1=>exact⟨_,h,⟨rfl,h1⟩,rfl⟩
  ·exact h.elim
 ·split at h
  ·obtain⟨b,hb,h⟩:=h
   cases hx with|b _ b' hb'=>
   have:b'=b:=by rw [Bool.eq_iff_iff,hb',hb]
   subst this
   exact⟨_,h,rfl,rfl⟩
  ·exact h.elim
 ·exact(hs _ rfl).elim
 ·exact(hs _ rfl).elim
 ·exact h.elim

theorem gd:∀(t:Ty) (l:List V) (us:List Value) (K:Bool→t.D→List V→Prop),asCellsN t l K→VRels c H w l us→
  ∃f x l' us1 us2,K f x l'∧us=us1++us2∧(∀fr,(fr=true→f=true)→(∀g,c.N g→c.M g)→aJ w (c.im fr) t x us1)∧VRels c H w l' us2
 |.nil,l,us,K,h,hr=>⟨true,(),l, [],us,h,rfl,fun _ _ _=>rfl,hr⟩
 |.cons t ts,l,us,K,h,hr=>by
  unfold asCellsN at h
  obtain⟨f,x,l1,u1,u2,h,rfl,h1,h2⟩:=gd t l us _ h hr
  obtain⟨g,y,l2,u3,u4,h,rfl,h3,h4⟩:=gd ts l1 u2 _ h h2
  refine⟨f&&g,(x,y),l2,u1++u3,u4,h,by simp,fun fr hf hN=>⟨u1,u3,rfl,h1 fr (fun e=> ?_) hN,h3 fr (fun e=> ?_) hN⟩,h4⟩
  ·have:=hf e;simp at this;exact this.1
  ·have:=hf e;simp at this;exact this.2
 |.arr _ _,l,us,K,h,hr=>by simp [asCellsN] at h
 |.fnT,l,us,K,h,hr=>by simp [asCellsN] at h
 |.mapT _,l,us,K,h,hr=>by simp [asCellsN] at h
 | .sl t,l,us,K,h,hr=>by
  unfold asCellsN at h
  split at h
  ·cases hr with|cons _ u _ us hv hr=>
   cases hv
   exact⟨true, [],_, [_],us,h,rfl,fun fr _ _=>⟨none,0,rfl,Nat.le_refl _,by simp,fun h=>absurd rfl h⟩,hr⟩
  ·rename_i fr t' xs l
   obtain⟨e,h⟩:=cX h
   subst e
   cases hr with|cons _ u _ us hv hr=>
   cases hv with|sl _ _ _ _ hd=>
   refine⟨fr,xs,_, [u],us,h,rfl,fun fr' hf hN=>aJ.ext (M:=c.im fr) (fun g hg=> ?_) (fun _ _=>rfl) _ _ _ hd,hr⟩
   cases fr'<;>cases fr
   ·exact hg
   ·exact hN g hg
   ·cases hf rfl
   ·exact hg
  ·exact h.elim
 | .u8,l,us,K,h,hr=>by
  unfold asCellsN at h
  split at h
  ·rename_i v l
   cases hr with|cons _ u _ us hv hr=>
   obtain⟨y,h1,h2,_⟩:=kF h hv (fun _ h=>by cases h) (fun _=>False)
   exact⟨true,y,l, [u],us,h1,rfl,fun fr _ _=>aJ.ext (fun _ h=>h.elim) (fun _ h=>h.elim) _ _ _ h2,hr⟩
  ·exact h.elim
 | .int k,l,us,K,h,hr=>by
  unfold asCellsN at h
  split at h
  ·rename_i v l
   cases hr with|cons _ u _ us hv hr=>
   obtain⟨y,h1,h2,_⟩:=kF h hv (fun _ h=>by cases h) (fun _=>False)
   exact⟨true,y,l, [u],us,h1,rfl,fun fr _ _=>aJ.ext (fun _ h=>h.elim) (fun _ h=>h.elim) _ _ _ h2,hr⟩
  ·exact h.elim
 | .bool,l,us,K,h,hr=>by
  unfold asCellsN at h
  split at h
  ·rename_i v l
   cases hr with|cons _ u _ us hv hr=>
   obtain⟨y,h1,h2,_⟩:=kF h hv (fun _ h=>by cases h) (fun _=>False)
   exact⟨true,y,l, [u],us,h1,rfl,fun fr _ _=>aJ.ext (fun _ h=>h.elim) (fun _ h=>h.elim) _ _ _ h2,hr⟩
  ·exact h.elim
 | .str,l,us,K,h,hr=>by
  unfold asCellsN at h
  split at h
  ·rename_i v l
   cases hr with|cons _ u _ us hv hr=>
   obtain⟨y,h1,h2,_⟩:=kF h hv (fun _ h=>by cases h) (fun _=>False)
   exact⟨true,y,l, [u],us,h1,rfl,fun fr _ _=>aJ.ext (fun _ h=>h.elim) (fun _ h=>h.elim) _ _ _ h2,hr⟩
  ·exact h.elim

theorem mm {t:Ty} {v:V} {u:Value} {K:Bool→t.D→Prop} (h:asEl t v K) (hx:VRel c H w v u):
  ∃f y,K f y∧(∀fr,(fr=true→f=true)→(∀g,c.N g→c.M g)→aJ w (c.im fr) t y u.cells.toList):=by
 unfold asEl at h
 split at h
 ·rename_i t ts
  split at h
  ·rename_i cs
   cases hx with|agg _ us hr=>
   obtain⟨f,x,l,u1,u2,h,rfl,h1,h2⟩:=gd _ _ _ _ h hr
   split at h
   ·cases h2
    exact⟨f,x,h,fun fr hf hN=>by simpa [Value.cells] using h1 fr hf hN⟩
   ·exact h.elim
  ·exact h.elim
 ·rename_i t K
  split at h
  ·cases hx
   exact⟨true, [],h,fun fr _ _=>⟨none,0,rfl,by simp,by simp [maxLen],fun hh=>absurd rfl hh⟩⟩
  ·rename_i f0 t' xs
   obtain⟨e,hk⟩:=cX h
   subst e
   cases hx with|sl _ _ _ _ hd=>
   refine⟨f0,_,hk,fun fr hf hN=> ?_⟩
   have hone:=iG (aJ.one _ _ _ hd u (by simp))
   rw [hone]
   exact aJ.ext (by
    cases fr with
    |false=>cases f0 with
     |false=>exact fun g h=>h
     |true=>exact hN
    |true=>rw [hf rfl];exact fun g h=>h) (fun _ _=>rfl) _ _ _ hd
  ·exact h.elim
 ·rename_i n te K
  split at h
  ·rename_i f0 t' y
   split at h
   ·rename_i e
    subst e
    cases hx with|dat _ _ _ es hd=>
    refine⟨f0,_,h,fun fr hf hN=> ?_⟩
    have hd2:aJ w (c.im fr) (.arr n te) y es:=aJ.ext (by
     cases fr with
     |false=>cases f0 with
      |false=>exact fun g h=>h
      |true=>exact hN
     |true=>rw [hf rfl];exact fun g h=>h) (fun _ _=>rfl) _ _ _ hd
    simpa [Value.cells] using hd2
   ·exact h.elim
  ·exact h.elim
 ·rename_i hc hs ha
  obtain⟨y,h1,h2,_⟩:=kF h hx (fun t' e=>by subst e;exact hs t' _ rfl HEq.rfl) (fun _=>False)
  have:=iG (aJ.one _ _ _ h2 u (by simp))
  exact⟨true,y,h1,fun fr _ _=>by rw [this];exact aJ.ext (fun _ h=>h.elim) (fun _ h=>h.elim) _ _ _ h2⟩

theorem lH (hE:EnvOk P E) (hst:St E.glob base w0 c H w) (hσ:VRels c H w σ a.tmps.toList) {T:TypeId} {tT:Ty} (hT:lk E.ty T=some tT) {p x:Operand} (ho:o.op= .store T p x) {id g i o':Nat} {fr:Bool} {t:Ty} {xs:List t.D}
  (hb:aD H id= .row fr t xs) (hr:c.ρ id=some g) (hi:i<xs.length) (hae:a.eval p= .pointer (some ⟨g,c.β id+(i*t.size+o'),none⟩)) (hone:∀u∈(a.eval x).cells.toList,u.oneCell'=true) (hws:(a.eval x).cells.size=tT.size) (hfit:o'+(a.eval x).cells.size≤t.size)
  {y:t.D} (hy:∀es0,aJ w (c.im fr) t (xs.getD i t.dflt) es0→aJ w (c.im fr) t y (es0.take o'++(a.eval x).cells.toList++es0.drop (o'+(a.eval x).cells.size)))
  (hk:K .undef σ (aH H id (.row fr t (xs.set i y)))):a8 E.glob base w0 a.tmps.toList K P o a w:=by
 obtain⟨es0,e,cur,hd0,hl0,hg,hc0⟩:=jd hst hb hr hi
 have hy:=hy es0 hd0
 obtain⟨q,hq⟩:∃q,q=c.β id+(i*t.size+o'):=⟨_,rfl⟩
 rw [←hq] at hae
 have hbk:=hst.blk id
 rw [hb] at hbk
 obtain⟨g',e',cur0,hr',hg',hsz,hel⟩:=hbk.resolve_left (fun hh=>by rw [hh.1] at hr;simp at hr)
 rw [hr] at hr';cases hr'
 rw [hg] at hg';cases hg'
 generalize hws2:(a.eval x).cells=ws at*
 have hin:c.β id+(i*t.size+t.size)≤cur.size:=by
  have:(i+1)*t.size≤xs.length*t.size:=Nat.mul_le_mul_right _ (by omega)
  rw [Nat.succ_mul] at this;omega
 have hrun:=jZ (P:=P) (w:=w) (az hE hT) (v:=a.eval x) (q:=q) hg (by rw [hws2];exact hws) (by rw [hws2];omega) (by rw [hws2];exact hone)
 rw [hws2] at hrun
 obtain⟨cur',hcur'⟩:∃cur',(cur.toList.take q++ws.toList++cur.toList.drop (q+ws.size)).toArray=cur':=⟨_,rfl⟩
 rw [hcur'] at hrun
 have hsz':cur'.size=cur.size:=by
  rw [←hcur'];simp only [List.size_toArray,List.length_append,List.length_take,List.length_drop,Array.length_toList];omega
 have hget:∀j,cur'[j]? =if j<q then cur[j]? else if j<q+ws.size then ws[j-q]? else cur[j]? :=fun j=>by
  rw [←hcur',List.getElem?_toArray]
  by_cases h1:j<q
  ·rw [if_pos h1,List.append_assoc,List.getElem?_append_left (by simp;omega),List.getElem?_take,if_pos h1];simp
  ·rw [if_neg h1]
   by_cases h2:j<q+ws.size
   ·rw [if_pos h2,List.append_assoc,List.getElem?_append_right (by simp;omega),List.getElem?_append_left (by simp;omega)]
    simp [Nat.min_eq_left (show q≤cur.size by omega)]
   ·rw [if_neg h2,List.getElem?_append_right (by simp;omega),List.getElem?_drop]
    have:q+ws.size+(j-(List.take q cur.toList++ws.toList).length)=j:=by
     simp [Nat.min_eq_left (show q≤cur.size by omega)];omega
    rw [this];simp
 obtain⟨hw1,hw2⟩:=cN w g cur cur' e hg
 have hshape:aE (aH H id (.row fr t (xs.set i y))) id=aE H id:=by
  have hidl:=(hst.own id g hr).2.2.2
  simp [aE,aG,hidl,hb]
 have hext:=hst.ext_upd id g (.row fr t (xs.set i y)) e cur cur' hr hg hsz' hw1 hw2 hshape
 refine .inr (.inl ⟨w.setRow g cur',?_,.undef,σ,_,c,hk,.undef _,hσ.ext hext,?_⟩)
 ·simp [execOp,ho,hae,hrun]
 ·refine hst.upd id g _ e cur cur' hr hg hsz' hw1 hw2 hshape (cR (hst.own id g hr).1) (.inr ⟨g,e,cur',hr,hw1,by rw [List.length_set,hsz'];exact hsz,fun j u hj=> ?_⟩)
  rw [List.getElem?_set] at hj
  split at hj
  ·rename_i hij
   subst hij
   obtain rfl:y=u:=by simpa using hj
   refine⟨_,hext.drel hy,fun k v hk=> ?_⟩
   rw [hget]
   rw [List.append_assoc] at hk
   by_cases h1:k<o'
   ·rw [if_pos (by omega)]
    rw [List.getElem?_append_left (by rw [List.length_take];omega),List.getElem?_take,if_pos h1] at hk
    exact hc0 k v hk
   ·rw [if_neg (by omega),List.getElem?_append_right (by rw [List.length_take];omega),List.length_take,Nat.min_eq_left (by omega)] at*
    by_cases h2:k<o'+ws.size
    ·rw [if_pos (by omega)]
     rw [List.getElem?_append_left (by simp;omega)] at hk
     rw [show c.β id+(i*t.size+k)-q=k-o' by omega]
     simpa using hk
    ·rw [if_neg (by omega)]
     rw [List.getElem?_append_right (by simp;omega),List.getElem?_drop] at hk
     have:=hc0 k v (by rw [←hk];congr 1;simp;omega)
     exact this
  ·rename_i hij
   obtain⟨es,h5,h6⟩:=hel j u hj
   refine⟨es,hext.drel h5,fun k v hk=> ?_⟩
   have hk1:=(List.getElem?_eq_some_iff.1 hk).1
   rw [aJ.length _ _ _ h5] at hk1
   have:=h6 k v hk
   rw [hget]
   rcases Nat.lt_or_gt_of_ne hij with hlt|hlt
   ·have:(i+1)*t.size≤j*t.size:=Nat.mul_le_mul_right _ hlt
    rw [Nat.succ_mul] at this
    rw [if_neg (by omega),if_neg (by omega)]
    exact h6 k v hk
   ·have:(j+1)*t.size≤i*t.size:=Nat.mul_le_mul_right _ hlt
    rw [Nat.succ_mul] at this
    rw [if_pos (by omega)]
    exact h6 k v hk

theorem Cs (hE:EnvOk P E) (hst:St E.glob base w0 c H w) (hσ:VRels c H w σ a.tmps.toList) {T:TypeId} {tT:Ty} (hT:lk E.ty T=some tT) {p x:Operand} (ho:o.op= .store T p x) {id g n:Nat} {fr f:Bool} {t:Ty} {xs ys:List t.D}
  (hb:aD H id= .row fr t xs) (hr:c.ρ id=some g) (hae:a.eval p= .pointer (some ⟨g,c.β id,none⟩)) {es:List Value} (hax:a.eval x= .agg es.toArray) (hflat:t.flat=true) (hd:aJ w (c.im f) (.arr n t) ys es) (hlen:ys.length=xs.length) (hsT:tT.size=n*t.size)
  (hk:K .undef σ (aH H id (.row fr t ys))):a8 E.glob base w0 a.tmps.toList K P o a w:=by
 have hbk:=hst.blk id
 rw [hb] at hbk
 obtain⟨g',e,cur,hr',hg,hsz,hel⟩:=hbk.resolve_left (fun hh=>by rw [hh.1] at hr;simp at hr)
 rw [hr] at hr';cases hr'
 have hone:=aJ.one _ _ _ hd
 have hesl:=aJ.length _ _ _ hd
 obtain⟨hn,ess,hfl,hl,helt⟩:=hd
 have hesl:es.length=n*t.size:=hesl
 have hlens:∀e∈ess,e.length=t.size:=fun e he=>by
  obtain⟨i,hi⟩:=List.mem_iff_getElem?.1 he
  have hlt:i<ess.length:=(List.getElem?_eq_some_iff.1 hi).1
  exact aJ.length _ _ _ (helt i _ e (List.getElem?_eq_getElem (by omega)) hi)
 have hcl:(a.eval x).cells=es.toArray:=by rw [hax];rfl
 have hrun:=jZ (P:=P) (w:=w) (az hE hT) (v:=a.eval x) (q:=c.β id) hg (by rw [hcl,hsT];simpa using hesl) (by rw [hcl];simp;rw [←hlen,hn] at hsz;omega) (by rw [hcl];simpa using hone)
 rw [hcl] at hrun
 obtain⟨cur',hcur'⟩:∃cur',(cur.toList.take (c.β id)++es.toArray.toList++cur.toList.drop (c.β id+es.toArray.size)).toArray=cur':=⟨_,rfl⟩
 rw [hcur'] at hrun
 rw [←hlen,hn] at hsz
 have hsz':cur'.size=cur.size:=by
  rw [←hcur'];simp;omega
 have hget:∀(j:Nat) (v:Value),es[j]? =some v→cur'[c.β id+j]? =some v:=fun j v hj=>by
  have:=(List.getElem?_eq_some_iff.1 hj).1
  have hlt:(cur.toList.take (c.β id)).length=c.β id:=by rw [List.length_take,Array.length_toList];omega
  rw [←hcur',List.getElem?_toArray,List.append_assoc,List.getElem?_append_right (by rw [hlt];omega),hlt,show c.β id+j-c.β id=j by omega,List.getElem?_append_left (by simpa using this)]
  simpa using hj
 obtain⟨hw1,hw2⟩:=cN w g cur cur' e hg
 have hshape:aE (aH H id (.row fr t ys)) id=aE H id:=by
  have hidl:=(hst.own id g hr).2.2.2
  simp [aE,aG,hidl,hb,hlen]
 have hext:=hst.ext_upd id g (.row fr t ys) e cur cur' hr hg hsz' hw1 hw2 hshape
 refine .inr (.inl ⟨w.setRow g cur',?_,.undef,σ,_,c,hk,.undef _,hσ.ext hext,?_⟩)
 ·simp [execOp,ho,hae,hrun]
 ·refine hst.upd id g _ e cur cur' hr hg hsz' hw1 hw2 hshape (cR (hst.own id g hr).1) (.inr ⟨g,e,cur',hr,hw1,by rw [hsz',hn];exact hsz,fun j u hj=> ?_⟩)
  have hjl:j<ess.length:=by have:=(List.getElem?_eq_some_iff.1 hj).1;omega
  refine⟨ess[j],aJ.flat _ _ _ hflat (helt j u _ hj (List.getElem?_eq_getElem hjl)),fun k v hk=>hget _ v ?_⟩
  rw [hfl]
  have key:∀(ess:List (List Value)) (j k:Nat) (hj:j<ess.length),(∀e∈ess,e.length=t.size)→ess[j][k]? =some v→ess.flatten[j*t.size+k]? =some v:=by
   intro ess
   induction ess with
   |nil=>intro j k hj;simp at hj
   | cons e ess ih=>
    intro j k hj hl hk
    have he:=hl e (by simp)
    cases j with
    |zero=>
     have hk:e[k]? =some v:=hk
     have:=(List.getElem?_eq_some_iff.1 hk).1
     rw [List.flatten_cons,List.getElem?_append_left (by omega)]
     simpa using hk
    |succ j=>
     rw [List.flatten_cons,List.getElem?_append_right (by rw [Nat.succ_mul];omega),show(j+1)*t.size+k-e.length=j*t.size+k by rw [Nat.succ_mul];omega]
     exact ih j k (by simpa using hj) (fun e h=>hl e (by simp [h])) hk
  exact key ess j k hjl hlens hk

theorem H6 (hE:EnvOk P E) (hst:St E.glob base w0 c H w) (hσ:VRels c H w σ a.tmps.toList) (T:TypeId) (p x:Operand) (ho:o.op= .store T p x) (h:a7 E σ H (.store T p x) K):
  a8 E.glob base w0 a.tmps.toList K P o a w:=by
 have hp:=bK hst hσ p
 have hx:=bK hst hσ x
 simp only [a7] at h
 have h:=(aR _ _).1 h
 generalize ev E σ p=vp at h hp
 generalize ev E σ x=vx at h hx
 generalize hae:a.eval p=xp at hp
 unfold astore at h
 split at h
 ·rename_i id z i o' tT hT
  cases hp with|ptr _ _ _ _ g m hs hr hi ho'=>
  split at h
  ·rename_i fr t xs hb
   simp only [aE,hb,Option.some.injEq,Prod.mk.injEq] at hs
   obtain⟨rfl,rfl⟩:=hs
   split at h
   ·rename_i f t' ys
    unfold asArr at h
    split at h
    ·rename_i f' n te ys' heq
     obtain⟨e0,h⟩:=cX h
     subst e0
     obtain⟨⟨hflat,h0,h1,h2,h3⟩,hk⟩:=h
     have hk:=(aA _ _).1 hk
     subst h0 h1
     generalize hax:a.eval x=ax at hx
     rw [heq] at hx
     cases hx with|dat _ _ _ es hd=>
     exact Cs hE hst hσ hT ho hb hr (by simpa using hae) hax hflat hd (by simpa using h2) h3 hk
    ·exact h.elim
   ·rename_i cs
    obtain⟨f,y,⟨⟨hf,h0,h1⟩,hk⟩,hd⟩:=mm h hx
    have hk:=(aA _ _).1 hk
    subst h0
    have hd:=hd fr hf fun g hg=>(hst.sub g hg).1
    have hl:=aJ.length _ _ _ hd
    have hl':(a.eval x).cells.size=t.size:=by simpa using hl
    refine lH hE hst hσ hT ho hb hr hi hae (aJ.one _ _ _ hd) (by rw [hl',h1]) (by omega) (fun es0 hd0=> ?_) hk
    have:=aJ.length _ _ _ hd0
    rw [List.take_zero,List.nil_append,List.drop_eq_nil_of_le (by omega),List.append_nil]
    exact hd
   ·obtain⟨f,y,⟨⟨hf,h0,h1⟩,hk⟩,hd⟩:=mm h hx
    have hk:=(aA _ _).1 hk
    subst h0
    have hd:=hd fr hf fun g hg=>(hst.sub g hg).1
    have hl:=aJ.length _ _ _ hd
    have hl':(a.eval x).cells.size=t.size:=by simpa using hl
    refine lH hE hst hσ hT ho hb hr hi hae (aJ.one _ _ _ hd) (by rw [hl',h1]) (by omega) (fun es0 hd0=> ?_) hk
    have:=aJ.length _ _ _ hd0
    rw [List.take_zero,List.nil_append,List.drop_eq_nil_of_le (by omega),List.append_nil]
    exact hd
   ·obtain⟨es1,_,_,hd1,_⟩:=jd hst hb hr hi
    obtain⟨y,⟨⟨_,h1⟩,hk⟩,hone,hun⟩:=pF (M:=c.im fr) hx t _ o' es1 _ h hd1 ho'
    have hcl:=iG hone
    have hk:=(aA _ _).1 hk
    refine lH (y:=y) hE hst hσ hT ho hb hr hi hae (by rw [hcl];simpa using hone) (by rw [hcl,h1];rfl) (by rw [hcl];simp;omega) (fun es0 hd0=> ?_) hk
    have hl:=aJ.length _ _ _ hd0
    have:=hun es0 hd0
    rw [List.set_eq_take_append_cons_drop,if_pos (by omega)] at this
    rw [hcl]
    simpa using this
  ·rename_i cs hb
   simp only [aE,hb,Option.some.injEq,Prod.mk.injEq] at hs
   obtain⟨rfl,rfl⟩:=hs
   simp only [Nat.mul_one] at hae
   split at h
   ·rename_i vs
    obtain⟨⟨h1,h2,h3,h4⟩,hk⟩:=h
    subst h3
    have hk:=(aA _ _).1 ((aA _ _).1 hk)
    generalize hax:a.eval x=ax at hx
    cases hx with|agg _ us hrel=>
    exact oJ hE hst hσ hT ho hb hr hae (by rw [hax];simpa [Value.cells] using hrel) h1 h2 h4 hk
   ·obtain⟨⟨h1,h2,h3⟩,hk⟩:=h
    subst h3
    have hk:=(aA _ _).1 ((aA _ _).1 hk)
    have h1c:=lR hx h1
    refine oJ (vs:= [vx]) hE hst hσ hT ho hb hr hae (by rw [h1c.2];exact .cons _ _ _ _ hx .nil) (by simp [b7,h1]) (by simpa using h2.symm) (by simp;omega) ?_
    simpa [gW] using hk
  ·exact h.elim
 ·exact h.elim
end
end
section
section
variable {E:Env} {P:Program} {G:List (Nat×V)} {base:Nat} {w0:W0} {c:Cx} {H:List Blk} {w:World} {σ:List V} {a:Act} {K:V→List V→List Blk→Prop} {o:Oper}

theorem gG {v:V} {x:Value} {K:Int→Prop} (h:asIdx v K) (hx:VRel c H w v x):∃k i,x= .int k i∧K i:=by
 unfold asIdx at h
 split at h
 ·cases hx;exact⟨_,_,rfl,h⟩
 ·cases hx;exact⟨_,_,rfl,h⟩
 ·exact h.elim

theorem eP {T e:TypeId} {z:Nat} (hu:P.underlying T=some (.slice e)) (hs:(P.info? e).map (·.size)=some z) {g q len cap:Nat} {k:IntKind} {i:Int} (h0:0≤i) (h1:i<len):
  (Instr.indexAt T (.slice (some ⟨g,q,none⟩) len cap) (.int k i)).run P w= .ok (.pointer (some ⟨g,q+i.toNat*z,none⟩)) w:=by
 cases hi:P.info? e with
 |none=>rw [hi] at hs;simp at hs
 |some inf=>
  rw [hi] at hs
  simp only [Option.map_some,Option.some.injEq] at hs
  simp [Instr.indexAt,asIntOf,run_underlying hu,h0,h1,sizeOf,typeInfo,hi,hs,Addr.add_lit]

theorem ja {T e:TypeId} {z n:Nat} (hu:P.underlying T=some (.array n e)) (hs:(P.info? e).map (·.size)=some z) {g q:Nat} {k:IntKind} {i:Int} (h0:0≤i) (h1:i<n):
  (Instr.indexAt T (.pointer (some ⟨g,q,none⟩)) (.int k i)).run P w= .ok (.pointer (some ⟨g,q+i.toNat*z,none⟩)) w:=by
 cases hi:P.info? e with
 |none=>rw [hi] at hs;simp at hs
 |some inf=>
  rw [hi] at hs
  simp only [Option.map_some,Option.some.injEq] at hs
  simp [Instr.indexAt,Instr.sureAddr,asIntOf,run_underlying hu,h0,h1,sizeOf,typeInfo,hi,hs,Addr.add_lit]

theorem aN.size {T:TypeId} {t:Ty} (h:aN P T t):(P.info? T).map (·.size)=some t.size:=by
 obtain⟨i,z,hi,_,_,hs,_⟩:=h.open
 rw [hi];simp [hs]

theorem s7 {P:Nat→Prop}:∀(n k:Nat),uz n k P→∀j,k≤j→j<k+n→P j
 |0,k,_,j,h1,h2=>by omega
 |n+1,k,h,j,h1,h2=>by
  rcases Nat.eq_or_lt_of_le h1 with e|e
  ·subst e;exact h.1
  ·exact s7 n (k+1) h.2 j e (by omega)
theorem rV {P:Nat→Prop}:∀(n k:Nat),(∀j,P j)→uz n k P
 |0,_,_=>trivial
 |n+1,k,h=>⟨h k,rV n (k+1) h⟩
theorem nL {b:Bool} {n:Nat} {i:Int} {P:Nat→Prop} (h0:0≤i) (h1:i<n):Hq b n i P↔P i.toNat:=by
 cases b with
 |false=>exact Iff.rfl
 |true=>
  refine⟨fun h=>s7 n 0 h i.toNat (Nat.zero_le _) (by omega) (by omega),fun h=>rV n 0 fun j e=> ?_⟩
  rw [show j=i.toNat by omega];exact h
theorem t7 (hE:EnvOk P E) (hst:St E.glob base w0 c H w) (hσ:VRels c H w σ a.tmps.toList) (T:TypeId) (x ix:Operand) (ho:o.op= .indexAddr T x ix) (h:a7 E σ H (.indexAddr T x ix) K):
  a8 E.glob base w0 a.tmps.toList K P o a w:=by
 have hx:=bK hst hσ x
 have hi:=bK hst hσ ix
 simp only [a7] at h
 generalize ev E σ x=vx at h hx
 generalize ev E σ ix=vi at h hi
 generalize hax:a.eval x=ax at hx
 generalize hai:a.eval ix=ai at hi
 unfold aindexAddr at h
 split at h
 ·rename_i te hT
  obtain⟨e,hu,hio,hpos⟩:=(az hE hT).sl
  split at h
  ·rename_i fr t xs
   obtain⟨hz,h⟩:=aO h
   have hz:=aa hz
   obtain⟨k,i,rfl,⟨h0,h1⟩,hk⟩:=gG h hi
   cases hx with|sl _ _ _ _ hd=>
   obtain⟨ad,cap,e1,e2,e3,e4⟩:=hd
   simp only [List.cons.injEq,and_true] at e1
   subst e1
   obtain⟨g,q,rfl,hM,hel⟩:=e4 (by intro hh;subst hh;simp at h1;omega)
   have hlt:i.toNat<xs.length:=by omega
   have hget:xs[i.toNat]? =some (xs.getD i.toNat t.dflt):=by simp [List.getD_eq_getElem?_getD,List.getElem?_eq_getElem hlt]
   obtain⟨es,hd,hc⟩:=hel _ _ hget
   have hrun:=eP (w:=w) (k:=k) (g:=g) (q:=q) (cap:=cap) hu hio.size h0 h1
   rw [←hz] at hrun
   have hrel:=VRel.rp (c:=c) (H:=H) (w:=w) fr t (xs.getD i.toNat t.dflt) 0 g (q+i.toNat*t.size) es hM hd hc
   exact aK hst hσ hrel hk (by simp [execOp,ho,hax,hai,hrun])
  ·rename_i t id
   cases hx with|own _ _ n ad cap hs hn hc hoo=>
   split at h
   ·rename_i fr t' xs hb
    simp only [aE,hb,Option.some.injEq,Prod.mk.injEq] at hs
    obtain⟨rfl,hz'⟩:=hs
    obtain⟨hz,h⟩:=aO h
    have hz:=aa hz
    obtain⟨k,i,rfl,⟨h0,h1⟩,hk⟩:=gG h hi
    obtain⟨g,el,cur,hr,rfl,hg,hsz⟩:=hoo.resolve_left (by intro h0;subst h0;omega)
    have hrun:=eP (w:=w) (k:=k) (g:=g) (q:=c.β id+0) (cap:=cap) hu hio.size h0 h1
    rw [←hz] at hrun
    simp only [Nat.add_zero] at hrun hax
    have hrel:=VRel.ptr (c:=c) (H:=H) (w:=w) id t.size i.toNat 0 g xs.length (by simp [aE,hb,hz']) hr (by omega) (by omega)
    exact aK hst hσ hrel hk (by simp [execOp,ho,hax,hai,hrun])
   ·rename_i cs hb
    simp only [aE,hb,Option.some.injEq,Prod.mk.injEq] at hs
    obtain⟨rfl,hz'⟩:=hs
    obtain⟨hz,h⟩:=aO h
    have hz:=aa hz
    obtain⟨k,i,rfl,⟨h0,h1⟩,hk⟩:=gG h hi
    have hk:=(nL h0 h1).1 hk
    obtain⟨g,el,cur,hr,rfl,hg,hsz⟩:=hoo.resolve_left (by intro h0;subst h0;omega)
    have hrun:=eP (w:=w) (k:=k) (g:=g) (q:=c.β id+0) (cap:=cap) hu hio.size h0 h1
    rw [←hz,←hz'] at hrun
    simp only [Nat.add_zero] at hrun hax
    have hrel:=VRel.ptr (c:=c) (H:=H) (w:=w) id 1 i.toNat 0 g cs.length (by simp [aE,hb]) hr (by omega) (by omega)
    exact aK hst hσ hrel hk (by simp only [Nat.mul_one] at hrun;simp [execOp,ho,hax,hai,hrun])
   ·exact h.elim
  ·rename_i t id off n
   cases hx with|slc _ _ _ _ m ad cap hs hm hn hc hoo=>
   split at h
   ·rename_i fr t' xs hb
    obtain⟨hz,h⟩:=aO h
    have hz:=aa hz
    obtain⟨k,i,rfl,⟨h0,h1⟩,hk⟩:=gG h hi
    obtain⟨g,el,cur,hr,rfl,hg,hsz⟩:=hoo.resolve_left (by intro h0;subst h0;omega)
    have hrun:=eP (w:=w) (k:=k) (g:=g) (q:=c.β id+off*t.size) (cap:=cap) hu hio.size h0 h1
    rw [←hz,Nat.add_assoc,←Nat.add_mul] at hrun
    have hrel:=VRel.ptr (c:=c) (H:=H) (w:=w) id t.size (off+i.toNat) 0 g m hs hr (by omega) (by omega)
    exact aK hst hσ hrel hk (by simp [execOp,ho,hax,hai,hrun])
   ·exact h.elim
  ·exact h.elim
 ·rename_i n te hT
  obtain⟨e,hu,hio,hpos,_⟩:=(az hE hT).arr
  split at h
  ·rename_i id z j o'
   cases hx with|ptr _ _ _ _ g m hs hr hj ho'=>
   split at h
   ·rename_i fr t xs hb
    have hs0:=hs
    simp only [aE,hb,Option.some.injEq,Prod.mk.injEq] at hs
    obtain⟨rfl,hz'⟩:=hs
    cases hb1:(decide (t=te)&&Nat.beq j 0&&Nat.beq o' 0&&Nat.beq z te.size) with
    |true=>
     rw [hb1] at h
     simp only [cond_true] at h
     simp only [Bool.and_eq_true,decide_eq_true_eq] at hb1
     obtain⟨⟨⟨q4,q1⟩,q2⟩,q3⟩:=hb1
     have q1:=aa q1
     have q2:=aa q2
     have q3:=aa q3
     subst q1 q2 q4
     obtain⟨k,i,rfl,⟨h0,h1,h2⟩,hk⟩:=gG h hi
     have hrun:=ja (w:=w) (k:=k) (g:=g) (q:=c.β id) hu hio.size h0 h1
     rw [←q3] at hrun
     have hrel:=VRel.ptr (c:=c) (H:=H) (w:=w) id z i.toNat 0 g xs.length hs0 hr (by omega) ho'
     simp only [Nat.zero_mul,Nat.add_zero] at hax
     exact aK hst hσ hrel hk (by simp [execOp,ho,hax,hai,hrun])
    | false=>
     rw [hb1] at h
     simp only [cond_false] at h
     obtain⟨hb2,hh⟩:=aO h
     clear h
     simp only [Bool.and_eq_true,decide_eq_true_eq] at hb2
     obtain⟨q1,q2⟩:=hb2
     have q2:=aa q2
     subst q1 q2
     obtain⟨k,i,rfl,⟨h0,h1⟩,hk⟩:=gG hh hi
     have hrun:=ja (w:=w) (k:=k) (g:=g) (q:=c.β id+(j*z+0)) hu hio.size h0 h1
     have hlt:i.toNat*te.size<z:=by
      rw [←hz']
      show i.toNat*te.size<n*te.size
      exact Nat.mul_lt_mul_of_pos_right (by omega) hpos
     have hrel:=VRel.ptr (c:=c) (H:=H) (w:=w) id z j (i.toNat*te.size) g xs.length hs0 hr hj hlt
     simp only [Nat.add_zero] at hax hrun
     exact aK hst hσ hrel hk (by simp [execOp,ho,hax,hai,hrun,Nat.add_assoc])
   ·exact h.elim
  ·rename_i fr t x o'
   split at h
   ·rename_i n' t' xs
    obtain⟨hb,hh⟩:=aO h
    clear h
    simp only [Bool.and_eq_true,decide_eq_true_eq] at hb
    obtain⟨⟨q1,q2⟩,q3⟩:=hb
    have q1:=aa q1
    have q3:=aa q3
    subst q1 q2 q3
    obtain⟨k,i,rfl,⟨h0,h1⟩,hk⟩:=gG hh hi
    cases hx with|rp _ _ _ _ g p0 es hM hd hc=>
    obtain⟨e0,ess,e1,e2,e3⟩:=hd
    have hrun:=ja (w:=w) (k:=k) (g:=g) (q:=p0+0) hu hio.size h0 h1
    have hlt:i.toNat<(xs:List t'.D).length:=by omega
    have hget:(xs:List t'.D)[i.toNat]? =some ((xs:List t'.D).getD i.toNat t'.dflt):=by simp [List.getD_eq_getElem?_getD,List.getElem?_eq_getElem hlt]
    have hge:ess[i.toNat]? =some (ess[i.toNat]'(by omega)):=List.getElem?_eq_getElem (by omega)
    have hd':=e3 _ _ _ hget hge
    have hlen:∀e∈ess,e.length=t'.size:=fun e he=>by
     obtain⟨i,hi⟩:=List.mem_iff_getElem?.1 he
     have hlt:i<ess.length:=(List.getElem?_eq_some_iff.1 hi).1
     have hx:(xs:List t'.D)[i]? =some ((xs:List t'.D)[i]'(by omega)):=List.getElem?_eq_getElem (by omega)
     exact aJ.length t' _ _ (e3 i _ e hx hi)
    have hfl:∀(ess:List (List Value)) (i j:Nat) (e:List Value) (v:Value),(∀e∈ess,e.length=t'.size)→ess[i]? =some e→e[j]? =some v→ess.flatten[i*t'.size+j]? =some v:=by
     intro ess
     induction ess with
     |nil=>intro i j e v _ h;simp at h
     | cons e0 ess ih=>
      intro i j e v hl h hv
      rw [List.flatten_cons]
      have he0:=hl e0 (by simp)
      cases i with
      |zero=>
       obtain rfl:e0=e:=by simpa using h
       have:=(List.getElem?_eq_some_iff.1 hv).1
       rw [Nat.zero_mul,Nat.zero_add,List.getElem?_append_left this];exact hv
      |succ i=>
       rw [List.getElem?_append_right (by rw [he0,Nat.succ_mul];omega)]
       rw [show(i+1)*t'.size+j-e0.length=i*t'.size+j by rw [he0,Nat.succ_mul];omega]
       exact ih i j e v (fun e he=>hl e (by simp [he])) (by simpa using h) hv
    have hrel:=VRel.rp (c:=c) (H:=H) (w:=w) fr t' ((xs:List t'.D).getD i.toNat t'.dflt) 0 g (p0+i.toNat*t'.size) _ hM hd' (fun j v hj=>by
     have:=hc _ _ (by rw [e1];exact hfl ess i.toNat j _ v hlen hge hj)
     rw [Nat.add_assoc];exact this)
    simp only [Nat.add_zero] at hax hrun hrel
    exact aK hst hσ hrel hk (by simp [execOp,ho,hax,hai,hrun])
   ·exact h.elim
  ·exact h.elim
 ·exact h.elim
end
end
section
section
variable {E:Env} {P:Program} {G:List (Nat×V)} {base:Nat} {w0:W0} {c:Cx} {H:List Blk} {w:World} {σ:List V} {a:Act} {K:V→List V→List Blk→Prop} {o:Oper}

theorem bG.struct {T:TypeId} {t ts:Ty} (h:bG P T (.cons t ts)):∃fs,P.underlying T=some (.struct fs)∧fs.toList.mapM (fun f=>(P.info? f.type).map fun i=>(f.offset,i.size))=some (qR (.cons t ts) 0):=by
 obtain⟨fs,h1,h2,_⟩:=h.2
 exact⟨fs,h1,h2⟩
theorem Bb {α β:Type} {g:α→Option β}:∀(fs:List α) (ps:List β),fs.mapM g=some ps→∀(k:Nat) (f:α),fs[k]? =some f→∃b,g f=some b∧ps[k]? =some b
 |[],ps,h,k,x,hx=>by simp at hx
 | f::fs,ps,h,k,x,hx=>by
  simp only [List.mapM_cons,Option.bind_eq_bind,Option.pure_def] at h
  cases hi:g f with
  |none=>rw [hi] at h;simp at h
  | some b=>
   rw [hi] at h
   cases hr:fs.mapM g with
   |none=>rw [hr] at h;simp at h
   | some rest=>
    rw [hr] at h
    simp only [Option.bind_some,Option.some.injEq] at h
    subst h
    cases k with
    |zero=>
     obtain rfl:f=x:=by simpa using hx
     exact⟨b,hi,rfl⟩
    |succ k=>
     obtain⟨b',h1,h2⟩:=Bb fs rest hr k x (by simpa using hx)
     exact⟨b',h1,by simpa using h2⟩
theorem Ch:∀(t:Ty) (k:Nat) (b:Bool),(eB t)[k]? =some b→b=bh (ua t k)
 |.cons t ts,0,b,h=>by simpa [eB,ua] using h.symm
 |.cons t ts,k+1,b,h=>Ch ts k b (by simpa [eB] using h)
 |.nil,k,b,h=>by simp [eB] at h
 |.u8,k,b,h=>by simp [eB] at h
 |.int _,k,b,h=>by simp [eB] at h
 |.bool,k,b,h=>by simp [eB] at h
 |.str,k,b,h=>by simp [eB] at h
 |.sl _,k,b,h=>by simp [eB] at h
 |.arr _ _,k,b,h=>by simp [eB] at h
 |.fnT,k,b,h=>by simp [eB] at h
 |.mapT _,k,b,h=>by simp [eB] at h

theorem pS:∀(l:List (Nat×Nat)) (i:Nat),rC l i=l[i]?
 |[],i=>by cases i<;>rfl
 |x::l,0=>rfl
 |x::l,i+1=>by simpa [rC] using pS l i

theorem uJ:∀(fs:List Field) (ps:List (Nat×Nat)),fs.mapM (fun f=>(P.info? f.type).map fun i=>(f.offset,i.size))=some ps→∀(k:Nat) (x:Nat×Nat),ps[k]? =some x→
  ∃f i,fs[k]? =some f∧P.info? f.type=some i∧x=(f.offset,i.size)
 |[],ps,h,k,x,hx=>by
  simp only [List.mapM_nil,Option.pure_def,Option.some.injEq] at h
  subst h;simp at hx
 | f::fs,ps,h,k,x,hx=>by
  simp only [List.mapM_cons,Option.bind_eq_bind,Option.pure_def] at h
  cases hi:P.info? f.type with
  |none=>rw [hi] at h;simp at h
  | some i=>
   rw [hi] at h
   cases hr:fs.mapM (fun f=>(P.info? f.type).map fun i=>(f.offset,i.size)) with
   |none=>rw [hr] at h;simp at h
   | some rest=>
    rw [hr] at h
    simp only [Option.map_some,Option.bind_some,Option.some.injEq] at h
    subst h
    cases k with
    |zero=>simp at hx;exact⟨f,i,rfl,hi,hx.symm⟩
    |succ k=>
     obtain⟨f',i',h1,h2,h3⟩:=uJ fs rest hr k x (by simpa using hx)
     exact⟨f',i',by simpa using h1,h2,h3⟩

theorem Ia (hE:EnvOk P E) (hst:St E.glob base w0 c H w) (hσ:VRels c H w σ a.tmps.toList) (S:TypeId) (x:Operand) (f:Nat) (ho:o.op= .fieldAddr S x f) (h:a7 E σ H (.fieldAddr S x f) K):
  a8 E.glob base w0 a.tmps.toList K P o a w:=by
 have hx:=bK hst hσ x
 simp only [a7] at h
 generalize ev E σ x=vx at h hx
 generalize hax:a.eval x=ax at hx
 unfold afield at h
 split at h
 ·rename_i t ts hT
  obtain⟨fs,hu,hfs⟩:=(az hE hT).struct
  split at h
  ·rename_i off z hO
   rw [pS] at hO
   obtain⟨fd,inf,hfd,hinf,hpair⟩:=uJ _ _ hfs f _ hO
   simp only [Prod.mk.injEq] at hpair
   obtain⟨ho1,ho2⟩:=hpair
   obtain⟨hb,h'⟩:=aO h
   clear h
   have h:=h'
   clear h'
   have hz:=kC hb
   have hfd':fs[f]? =some fd:=by simpa using hfd
   have hrun:∀g q:Nat,(Instr.fieldAt S (.pointer (some ⟨g,q,none⟩)) f).run P w= .ok (.pointer (some ⟨g,q+off,none⟩)) w:=fun g q=>by
    have hne:¬inf.size=0:=by omega
    simp [Instr.fieldAt,run_underlying hu,hfd',Instr.sureAddr,fieldPlace,sizeOf,typeInfo,hinf,hne,Addr.add_lit,ho1]
   split at h
   ·rename_i fr t' y o'
    cases hx with|rp _ _ _ _ g p0 es hM hd hc=>
    have hrel:=VRel.rp (c:=c) (H:=H) (w:=w) fr t' y (o'+off) g p0 es hM hd hc
    refine aK hst hσ hrel h ?_
    simp [execOp,ho,hax,hrun,Nat.add_assoc]
   ·rename_i id zz i o'
    cases hx with|ptr _ _ _ _ g m hs hr hi ho'=>
    split at h
    ·rename_i cs hb2
     have hs0:=hs
     simp only [aE,hb2,Option.some.injEq,Prod.mk.injEq] at hs
     obtain⟨rfl,rfl⟩:=hs
     obtain⟨hq,hh⟩:=aO h
     clear h
     simp only [Bool.and_eq_true] at hq
     obtain⟨⟨_,q2⟩,q3⟩:=hq
     have q2:=aa q2
     have q3:=kC q3
     subst q2
     have hrel:=VRel.ptr (c:=c) (H:=H) (w:=w) id 1 (i+off) 0 g cs.length hs0 hr q3 (by omega)
     refine aK hst hσ hrel hh ?_
     simp [execOp,ho,hax,hrun,Nat.add_assoc]
    ·obtain⟨hq,hh⟩:=aO h
     have q3:=kC hq
     have hrel:=VRel.ptr (c:=c) (H:=H) (w:=w) id zz i (o'+off) g m hs hr hi q3
     refine aK hst hσ hrel hh ?_
     simp [execOp,ho,hax,hrun,Nat.add_assoc]
    ·exact h.elim
   ·exact h.elim
  ·exact h.elim
 ·exact h.elim

theorem Ds (hE:EnvOk P E) (hst:St E.glob base w0 c H w) (hσ:VRels c H w σ a.tmps.toList) (S:TypeId) (x:Operand) (f:Nat) (ho:o.op= .field S x f) (h:a7 E σ H (.field S x f) K):
  a8 E.glob base w0 a.tmps.toList K P o a w:=by
 have hx:=bK hst hσ x
 simp only [a7] at h
 generalize ev E σ x=vx at h hx
 generalize hax:a.eval x=ax at hx
 unfold pZ at h
 split at h<;>first|exact h.elim|skip
 rename_i t ts hT
 obtain⟨fs,hu,hfs,hag⟩:=(az hE hT).2
 split at h<;>first|exact h.elim|skip
 rename_i off z hO
 rw [pS] at hO
 obtain⟨fd,inf,hfd,hinf,hpair⟩:=uJ _ _ hfs f _ hO
 simp only [Prod.mk.injEq] at hpair
 obtain⟨ho1,ho2⟩:=hpair
 obtain⟨hb,h⟩:=aO h
 simp only [Bool.and_eq_true,Bool.not_eq_true'] at hb
 obtain⟨hz,hna⟩:=hb
 obtain⟨b,hb1,hb2⟩:=Bb _ _ hag f fd hfd
 have hb3:=Ch _ _ _ hb2
 rw [hna] at hb3
 subst hb3
 have hfd':fs[f]? =some fd:=by simpa using hfd
 split at h<;>first|exact h.elim|skip
 rename_i cs
 obtain⟨hlt,h⟩:=aO h
 have hlt:=kC hlt
 have h:=(aR _ _).1 h
 cases hx with|agg _ us hrel=>
 have hl:=hrel.length
 have hv:us[off]? =some (us[off]'(by omega)):=List.getElem?_eq_getElem (by omega)
 have hg:us.getD off undef=us[off]'(by omega):=by rw [List.getD_eq_getElem?_getD,hv];rfl
 have hr:=hrel.get off
 rw [hg] at hr
 generalize us[off]'(by omega)=u at hv hr
 refine aK hst hσ hr h ?_
 have hnag:(isAgg fd.type).run P w= .ok false w:=by
  cases hue:P.underlying fd.type with
  |none=>rw [hue] at hb1;cases hb1
  |some d=>
   rw [hue] at hb1
   cases d<;>first|(simp [isAgg,run_underlying hue];done)|(simp [Cm] at hb1)
 simp [execOp,ho,hax,Instr.field,run_underlying hu,hfd',part,hnag,asAgg,←ho1,hv]

def jo:List Value→Nat→List Value→List Value
 |cs,_, []=>cs
 |cs,o,v::vs=>jo (cs.set o v) (o+1) vs

theorem VRels.over:∀{us:List V} {xs:List Value} {cs:List V} {vs:List Value} (_:VRels c H w us xs) (_:VRels c H w cs vs) (o:Nat),VRels c H w (gW cs o us) (jo vs o xs)
 |_,_,_,_,.nil,h,_=>h
 |_,_,_,_,.cons _ _ _ _ h1 h2,h,o=>VRels.over h2 (h.set h1 o) (o+1)

theorem rG:∀(l:List Value) (k off:Nat) (arr:Array Value),((l.zipIdx k).foldl (fun cs (x:Value×Nat)=>cs.setIfInBounds (off+x.2) x.1) arr).toList=jo arr.toList (off+k) l
 |[],k,off,arr=>rfl
 |v::l,k,off,arr=>by
  rw [List.zipIdx_cons,List.foldl_cons,rG l (k+1) off]
  simp [jo,Nat.add_assoc]
theorem sy (place:Nat→Option (Nat×Nat)) (cells:Array Value) (i:Nat) (v:Value) (rest:List (Nat×Value)) (off z:Nat) (hp:place i=some (off,z)) (hz:v.cells.size=z) (hle:off+z≤cells.size):
  Instr.fill place cells ((i,v)::rest)=Instr.fill place (jo cells.toList off v.cells.toList).toArray rest:=by
 have h1:¬(v.cells.size≠z∨off+v.cells.size>cells.size):=by omega
 have h2:=rG v.cells.toList 0 off cells
 have h3:(v.cells.zipIdx.foldl (fun cs (x:Value×Nat)=>cs.setIfInBounds (off+x.2) x.1) cells)=(jo cells.toList off v.cells.toList).toArray:=by
  apply Array.ext'
  rw [←Array.foldl_toList,Array.toList_zipIdx]
  simpa using h2
 have h4:(v.cells.zipIdx.foldl (fun cs (x:Value×Nat)=>match x with|(c,j)=>cs.setIfInBounds (off+j) c) cells)=(jo cells.toList off v.cells.toList).toArray:=h3
 simp only [Instr.fill,hp]
 rw [if_neg (by simpa using h1)]
 congr 1

theorem xa {x:V} {v:Value} (h:VRel c H w x v) (hne:∀l,x≠ .tup l) (hnu:x≠ .undef) (hnd:∀fr t y,x≠ .dat fr t y):VRels c H w (iW x) v.cells.toList:=by
 cases h with
 |agg cs vs h=>simpa [iW,Value.cells] using h
 |tup cs vs h=>exact(hne _ rfl).elim
 |undef v=>exact(hnu rfl).elim
 |sl fr t xs v hd=>
  obtain⟨a,cap,h1,h2⟩:=hd
  simp only [List.cons.injEq,and_true] at h1
  subst h1
  exact .cons _ _ _ _ (.sl _ _ _ _ ⟨a,cap,rfl,h2⟩) .nil
 |int k n h1 h2=>exact .cons _ _ _ _ (.int k n h1 h2) .nil
 |u8 x=>exact .cons _ _ _ _ (.u8 x) .nil
 |b p x h=>exact .cons _ _ _ _ (.b p x h) .nil
 |bt x=>exact .cons _ _ _ _ (.bt x) .nil
 |nope=>exact .cons _ _ _ _ .nope .nil
 |str s h=>exact .cons _ _ _ _ (.str s h) .nil
 |nils=>exact .cons _ _ _ _ .nils .nil
 |own t id n a cap hs hn hc ho=>exact .cons _ _ _ _ (.own t id n a cap hs hn hc ho) .nil
 |slc t id off n m a cap hs hm hn hc ho=>exact .cons _ _ _ _ (.slc t id off n m a cap hs hm hn hc ho) .nil
 |rp fr t x o g p es hM hd hc=>exact .cons _ _ _ _ (.rp fr t x o g p es hM hd hc) .nil
 |ptr id z i o g m hs hr hi ho=>exact .cons _ _ _ _ (.ptr id z i o g m hs hr hi ho) .nil
 |fn f cs vs h=>exact .cons _ _ _ _ (.fn f cs vs h) .nil
 |nilfn=>exact .cons _ _ _ _ .nilfn .nil
 |yld k h=>exact .cons _ _ _ _ (.yld k h) .nil
 |dat fr t x es h=>exact(hnd _ _ _ rfl).elim
 |rb x v g p hM hc h=>exact .cons _ _ _ _ (.rb x v g p hM hc h) .nil
 |mp t id g hs hr=>exact .cons _ _ _ _ (.mp t id g hs hr) .nil
end
end
section
section
variable {E:Env} {P:Program} {G:List (Nat×V)} {base:Nat} {w0:W0} {c:Cx} {H:List Blk} {w:World} {σ:List V} {a:Act} {K:V→List V→List Blk→Prop} {o:Oper}

theorem lW (hst:St E.glob base w0 c H w) (hσ:VRels c H w σ a.tmps.toList):∀(l:List Operand) (K:List V→Prop),evs E σ l K→∃vs,K vs∧VRels c H w vs (l.map a.eval)
 |[],K,h=>⟨[],h,.nil⟩
 |x::l,K,h=>by
  have h:=(aR _ _).1 h
  obtain⟨vs,h1,h2⟩:=lW hst hσ l _ h
  exact⟨_,h1,.cons _ _ _ _ (bK hst hσ x) h2⟩

theorem s8 {T:TypeId} {t:Ty} (ps:Array (Nat×Nat)) (hps:ps.toList=qR t 0):∀(parts:List (Nat×V)) (us:List Value) (cs:List V) (xs:List Value) (K:V→Prop),
  VRels c H w (parts.map (·.2)) us→VRels c H w cs xs→abuildF t parts cs K→
  ∃cs' xs',K (.agg cs')∧VRels c H w cs' xs'∧Instr.fill (ps[·]?) xs.toArray ((parts.map (·.1)).zip us)=some xs'.toArray
 |[],us,cs,xs,K,_,hc,h=>⟨cs,xs,h,hc,rfl⟩
 | (i,v)::parts,us,cs,xs,K,hp,hc,h=>by
  cases hp with|cons _ u _ us hv hr=>
  unfold abuildF at h
  split at h
  ·rename_i off z hO
   obtain⟨hb,hh⟩:=aO h
   simp only [Bool.and_eq_true] at hb
   obtain⟨⟨hpart,hz⟩,hle⟩:=hb
   have hz:=aa hz
   have hle:=eO hle
   have hh:=(aA _ _).1 hh
   have hcells:=xa hv (fun l e=>by subst e;simp [V.isPart] at hpart) (fun e=>by subst e;simp [V.isPart] at hpart) (fun fr t y e=>by simp only at e;subst e;simp [V.isPart] at hpart)
   have hl1:=hcells.length
   have hl2:=hc.length
   obtain⟨cs',xs',h1,h2,h3⟩:=s8 (T:=T) ps hps parts us _ (jo xs off u.cells.toList) K hr (VRels.over hcells hc off) hh
   refine⟨cs',xs',h1,h2,?_⟩
   simp only [List.map_cons,List.zip_cons_cons]
   rw [sy _ _ i u _ off z (by rw [pS] at hO;rw [←hO,←hps];simp) (by rw [←hz,hl1];simp) (by simp;omega)]
   exact h3
  ·exact h.elim

theorem lV (z:Nat):∀(us:List Value) (pre:List Value) (rest:List Value) (k:Nat),(∀u∈us,u.cells.size=z)→pre.length=k*z→rest.length=us.length*z→
  Instr.fill (fun i=>some (i*z,z)) (pre++rest).toArray ((us.zipIdx k).map fun x=>(x.2,x.1))=some (pre++(us.map (·.cells.toList)).flatten).toArray
 |[],pre,rest,k,_,_,hr=>by
  have:rest= []:=List.eq_nil_of_length_eq_zero (by simpa using hr)
  subst this;rfl
 | u::us,pre,rest,k,hz,hp,hr=>by
  have hu:=hz u (by simp)
  simp only [List.length_cons,Nat.succ_mul] at hr
  rw [List.zipIdx_cons,List.map_cons,sy _ _ k u _ (k*z) z rfl hu (by simp;omega)]
  have hov:∀(l pre rest:List Value) (n:Nat),n=pre.length→l.length≤rest.length→jo (pre++rest) n l=pre++l++rest.drop l.length:=by
   intro l
   induction l with
   |nil=>intro pre rest n _ _;simp [jo]
   | cons v l ih=>
    intro pre rest n hn hle
    cases rest with
    |nil=>simp at hle
    |cons r rest=>
     subst hn
     rw [jo,List.set_append_right _ _ (Nat.le_refl _),Nat.sub_self,List.set_cons_zero]
     have:=ih (pre++ [v]) rest (pre.length+1) (by simp) (by simpa using hle)
     simp only [List.append_assoc,List.singleton_append] at this
     rw [this];simp
  have h1:=hov u.cells.toList pre rest (k*z) hp.symm (by simp;omega)
  have h2:=lV z us (pre++u.cells.toList) (rest.drop u.cells.toList.length) (k+1) (fun u hu=>hz u (by simp [hu])) (by rw [List.length_append,hp,Nat.succ_mul];simp;omega)
   (by rw [List.length_drop];simp;omega)
  simp only [h1]
  rw [h2]
  simp

theorem nl {t:Ty}:∀{vs:List V} {us:List Value} {K:Bool→List t.D→Prop},asEls t vs K→VRels c H w vs us→
  ∃f xs,K f xs∧xs.length=us.length∧(∀fr,(fr=true→f=true)→(∀g,c.N g→c.M g)→∀(i:Nat) (x:t.D) (u:Value),xs[i]? =some x→us[i]? =some u→aJ w (c.im fr) t x u.cells.toList)
 |[],us,K,h,hr=>by
  cases hr
  exact⟨true, [],h,rfl,fun _ _ _=>by simp⟩
 | v::vs,us,K,h,hr=>by
  cases hr with|cons _ u _ us hv hr=>
  obtain⟨f,y,h1,h2⟩:=mm h hv
  obtain⟨g,xs,g1,g2,g3⟩:=nl h1 hr
  refine⟨f&&g,y::xs,g1,by simp [g2],fun fr hf hN i x u' hx hu=> ?_⟩
  cases i with
  |zero=>
   obtain rfl:y=x:=by simpa using hx
   obtain rfl:u=u':=by simpa using hu
   exact h2 fr (fun e=>by have:=hf e;simp at this;exact this.1) hN
  |succ i=>exact g3 fr (fun e=>by have:=hf e;simp at this;exact this.2) hN i x u' (by simpa using hx) (by simpa using hu)
theorem Bl:∀(l:List (Nat×V)) (i n:Nat),N6 l i n=true→n=i+l.length∧l=((l.map (·.2)).zipIdx i).map (fun x=>(x.2,x.1))
 |[],i,n,h=>⟨by have:=aa h;simp [this],rfl⟩
 |(k,x)::l,i,n,h=>by
  simp only [N6,Bool.and_eq_true] at h
  obtain⟨h1,h2⟩:=h
  have h1:=aa h1
  subst h1
  obtain⟨h3,h4⟩:=Bl l (k+1) n h2
  refine⟨by simp;omega,?_⟩
  simp only [List.map_cons,List.zipIdx_cons]
  rw [←h4]

theorem Ic (hE:EnvOk P E) (hst:St E.glob base w0 c H w) (hσ:VRels c H w σ a.tmps.toList) (T:TypeId) (parts:Array (Nat×Operand)) (ho:o.op= .build T parts) (h:a7 E σ H (.build T parts) K):
  a8 E.glob base w0 a.tmps.toList K P o a w:=by
 simp only [a7] at h
 obtain⟨vs,h,hvs⟩:=lW hst hσ _ _ h
 unfold abuild at h
 split at h
 ·rename_i t ts hT
  have hok:=az hE hT
  obtain⟨i,z,hi,hz,hzc,hsz,_⟩:=hok.info
  obtain⟨fs,hu,hfs⟩:=hok.struct
  have h:=(aA _ _).1 h
  have hlen:vs.length=(parts.toList.map (·.1)).length:=by rw [hvs.length];simp
  obtain⟨cs',xs',h1,h2,h3⟩:=s8 (T:=T) (t:= .cons t ts) (qR (.cons t ts) 0).toArray (by simp) ((parts.toList.map (·.1)).zip vs) (parts.toList.map fun x=>a.eval x.2) (cK (.cons t ts)) (zc (.cons t ts)) _ (by
   rw [List.map_snd_zip (by omega)];rw [List.map_map] at hvs;exact hvs) (eY _) h
  refine aK hst hσ (VRel.agg _ _ h2) h1 ?_
  rw [List.map_fst_zip (by omega)] at h3
  have hzip:(parts.toList.map (·.1)).zip (parts.toList.map fun x=>a.eval x.2)=parts.toList.map fun x=>(x.1,a.eval x.2):=by
   rw [List.zip_map']
  rw [hzip] at h3
  have hcell:z.cells=(zc (.cons t ts)).toArray:=by rw [←hzc]
  have hparts:(parts.map fun x=>(x.1,a.eval x.2)).toList=parts.toList.map fun x=>(x.1,a.eval x.2):=by simp
  simp only [List.getElem?_toArray] at h3
  simp [execOp,ho,Instr.build,run_underlying hu,typeInfo,zeroValue,hi,hz,Array.mapM_eq_mapM_toList,run_places w _ _ hfs,hcell,h3]
 ·rename_i n t hT
  have hok:=az hE hT
  obtain⟨i,z,hi,hz,hzc,hsz,_⟩:=hok.info
  obtain⟨e,hu,hio,hpos,_⟩:=hok.arr
  obtain⟨i2,z2,hi2,_,_,hs2,_⟩:=hio.open
  obtain⟨hidx,h⟩:=aO h
  have hlen:vs.length=(parts.toList.map (·.1)).length:=by rw [hvs.length];simp
  rw [List.map_snd_zip (by omega)] at h
  obtain⟨us,hus⟩:∃us,(parts.toList.map (·.2)).map a.eval=us:=⟨_,rfl⟩
  rw [hus] at hvs
  obtain⟨f,xs,h1,h2,h3⟩:=nl h hvs
  obtain⟨hn,hix⟩:=Bl _ 0 n hidx
  rw [Nat.zero_add] at hn
  have hul:us.length=n:=by
   rw [hn,List.length_zip,←hlen,Nat.min_self,hvs.length]
  have hcs:∀fr,(fr=true→(t.flat||f)=true)→∀(k:Nat) (x:t.D) (u:Value),xs[k]? =some x→us[k]? =some u→aJ w (c.im fr) t x u.cells.toList:=fun fr hf k x u hx hu=>by
   cases ht:t.flat with
   |true=>exact aJ.flat _ _ _ ht (h3 false (fun h=>by cases h) (fun g hg=>(hst.sub g hg).1) k x u hx hu)
   |false=>exact h3 fr (fun e=>by have:=hf e;rw [ht] at this;simpa using this) (fun g hg=>(hst.sub g hg).1) k x u hx hu
  have hrel:aJ w (c.im (t.flat||f)) (.arr n t) xs (us.map (·.cells.toList)).flatten:=by
   refine⟨by rw [h2,hul],us.map (·.cells.toList),rfl,by rw [List.length_map,hul],fun k x es hx he=> ?_⟩
   rw [List.getElem?_map] at he
   cases hk:us[k]? with
   |none=>rw [hk] at he;simp at he
   |some u=>
    rw [hk] at he
    obtain rfl:u.cells.toList=es:=by simpa using he
    exact hcs _ (fun e=>e) k x u hx hk
  have hus1:∀u∈us,u.cells.size=t.size:=fun u hu=>by
   obtain⟨k,hk⟩:=List.mem_iff_getElem?.1 hu
   have hkl:k<us.length:=(List.getElem?_eq_some_iff.1 hk).1
   have hx:xs[k]? =some (xs[k]'(by omega)):=List.getElem?_eq_getElem (by omega)
   simpa using aJ.length _ _ _ (h3 false (fun h=>by cases h) (fun g hg=>(hst.sub g hg).1) k _ u hx hk)
  have hzl:z.cells.toList.length=us.length*t.size:=by
   rw [hzc,bQ,hul];rfl
  have hr:=lV t.size us [] z.cells.toList 0 hus1 (by simp) hzl
  simp only [List.nil_append,Array.toArray_toList] at hr
  have hpe:(parts.map (fun x=>(x.1,a.eval x.2))).toList=(us.zipIdx 0).map fun x=>(x.2,x.1):=by
   rw [Array.toList_map,←hus]
   have hz1:(parts.toList.map (·.1)).zip vs=_:=hix
   have h1:(parts.toList.map (·.1))=((parts.toList.map (·.2)).zipIdx 0).map (·.2):=by
    have:=congrArg (List.map (·.1)) hz1
    rw [List.map_fst_zip (by omega),List.map_map] at this
    rw [this,List.map_snd_zip (by omega)]
    simp only [Function.comp_def]
    rw [List.zipIdx_map_snd,List.zipIdx_map_snd,hvs.length,←hus,List.length_map]
   have h2:parts.toList=(parts.toList.map (·.1)).zip (parts.toList.map (·.2)):=by
    rw [List.zip_map'];simp
   generalize parts.toList.map (·.2)=L at h1 h2
   generalize parts.toList.map (·.1)=J at h1 h2
   rw [h2,h1]
   rw [List.zipIdx_map]
   clear h1 h2
   generalize 0=o
   induction L generalizing o with
   |nil=>rfl
   |cons x L ih=>simpa using ih (o+1)
  rw [Array.toList_map] at hpe
  refine aK hst hσ (VRel.dat _ _ _ _ hrel) h1 ?_
  simp [execOp,ho,Instr.build,run_underlying hu,typeInfo,zeroValue,hi,hz,sizeOf,hi2,hs2,hpe,hr]
 ·exact h.elim

theorem qo:∀(l:List (Nat×Operand)) (i n:Nat),qp l i n=true→n=i+l.length∧l=((l.map (·.2)).zipIdx i).map (fun x=>(x.2,x.1))
 |[],i,n,h=>⟨by have:=aa h;simp [this],rfl⟩
 |(k,x)::l,i,n,h=>by
  simp only [qp,Bool.and_eq_true] at h
  obtain⟨h1,h2⟩:=h
  have h1:=aa h1
  subst h1
  obtain⟨h3,h4⟩:=qo l (k+1) n h2
  refine⟨by simp;omega,?_⟩
  simp only [List.map_cons,List.zipIdx_cons]
  rw [←h4]

theorem jc {T e:TypeId} {t:Ty} (hu:P.underlying T=some (.slice e)) (hio:aN P e t) (us:List Value) (hus:∀u∈us,u.cells.size=t.size) (hn:us.length≤1000) (hsz:us.length*t.size≤16777216):
  (Instr.buildSlice T us.length ((us.zipIdx 0).map fun x=>(x.2,x.1)).toArray).run P w= .ok (.slice (some ⟨w.heap.size,0,none⟩) us.length us.length) (w.alloc (.cells (us.map (·.cells.toList)).flatten.toArray e)):=by
 obtain⟨i,z,hi,hz,hzc,hs,hb⟩:=hio.open
 have hr:=lV t.size us [] ((Array.range (us.length*t.size)).map (z.cells[· %z.cells.size]!)).toList 0 hus (by simp) (by simp)
 simp only [List.nil_append,Array.toArray_toList] at hr
 have h24:¬(16777216<us.length*t.size):=by omega
 by_cases h0:us.length*t.size=0
 ·rw [h0] at hr
  simp only [Array.range_zero',Array.map_empty] at hr
  simp [Instr.buildSlice,run_underlying hu,sizeOf,typeInfo,hi,hs,h0,Array.range_zero',hr,newRow]
 ·simp [Instr.buildSlice,run_underlying hu,sizeOf,typeInfo,zeroValue,hi,hz,hs,h24,h0,hr,newRow]

theorem rI {α:Type}:∀l:List α,(l.map fun u=> [u]).flatten=l
 |[]=>rfl
 |x::l=>by simp [rI l]

theorem ra {t:Ty}:∀{vs:List V} {us:List Value} {K:Bool→List t.D→Prop},asEls t vs K→VRels c H w vs us→
  ∃f xs,K f xs∧xs.length=us.length∧(∀fr,(fr=true→f=true)→(∀g,c.N g→c.M g)→(∀u∈us,u.cells.size=t.size)∧∀(i:Nat) (x:t.D),xs[i]? =some x→∃es:List Value,aJ w (c.im fr) t x es∧∀(j:Nat) (v:Value),es[j]? =some v→((us.map (·.cells.toList)).flatten)[i*t.size+j]? =some v)
 |[],us,K,h,hr=>by
  cases hr
  exact⟨true, [],h,rfl,fun _ _ _=>⟨by simp,by simp⟩⟩
 | v::vs,us,K,h,hr=>by
  cases hr with|cons _ u _ us hv hr=>
  obtain⟨f,y,h1,h2⟩:=mm h hv
  obtain⟨g,xs,g1,g2,g3⟩:=ra h1 hr
  refine⟨f&&g,y::xs,g1,by simp [g2],fun fr hf hN=> ?_⟩
  have h2:=h2 fr (fun e=>by have:=hf e;simp at this;exact this.1) hN
  obtain⟨g3,g4⟩:=g3 fr (fun e=>by have:=hf e;simp at this;exact this.2) hN
  have hl:=aJ.length _ _ _ h2
  refine⟨fun w hw=> ?_,fun i x hx=> ?_⟩
  ·rcases List.mem_cons.1 hw with rfl|hw
   ·simpa using hl
   ·exact g3 w hw
  ·simp only [List.map_cons,List.flatten_cons]
   cases i with
   |zero=>
    obtain rfl:y=x:=by simpa using hx
    refine⟨_,h2,fun j v hj=> ?_⟩
    have:=(List.getElem?_eq_some_iff.1 hj).1
    rw [List.getElem?_append_left (by omega)]
    simpa using hj
   |succ i=>
    obtain⟨es,e1,e2⟩:=g4 i x (by simpa using hx)
    refine⟨es,e1,fun j v hj=> ?_⟩
    have:=e2 j v hj
    rw [List.getElem?_append_right (by rw [Nat.succ_mul];omega),show(i+1)*t.size+j-u.cells.toList.length=i*t.size+j by rw [Nat.succ_mul];omega]
    exact this

theorem rr (hE:EnvOk P E) (hst:St E.glob base w0 c H w) (hσ:VRels c H w σ a.tmps.toList) (T:TypeId) (n:Nat) (parts:Array (Nat×Operand)) (ho:o.op= .buildSlice T n parts) (h:a7 E σ H (.buildSlice T n parts) K):
  a8 E.glob base w0 a.tmps.toList K P o a w:=by
 simp only [a7] at h
 obtain⟨hb,h⟩:=aO h
 simp only [Bool.and_eq_true] at hb
 obtain⟨hidx,hn⟩:=hb
 have hn:=eO hn
 obtain⟨hlen,hparts⟩:=qo _ _ _ hidx
 rw [Nat.zero_add] at hlen
 obtain⟨vs,h,hvs⟩:=lW hst hσ _ _ h
 obtain⟨us,hus⟩:∃us,(parts.toList.map (·.2)).map a.eval=us:=⟨_,rfl⟩
 rw [hus] at hvs
 have hul:us.length=n:=by rw [←hus];simp [hlen]
 have hpe:parts.map (fun x=>(x.1,a.eval x.2))=((us.zipIdx 0).map fun x=>(x.2,x.1)).toArray:=by
  apply Array.ext'
  rw [Array.toList_map]
  show List.map (fun x=>(x.1,a.eval x.2)) parts.toList=_
  rw [←hus]
  generalize parts.toList.map (·.2)=L at hparts
  rw [hparts,List.zipIdx_map]
  simp [List.map_map,Function.comp_def]
 have hrunOp:∀{e:TypeId} {t:Ty},P.underlying T=some (.slice e)→aN P e t→(∀u∈us,u.cells.size=t.size)→us.length*t.size≤16777216→
   (execOp a.eval o).run P w= .ok (.value (.slice (some ⟨w.heap.size,0,none⟩) us.length us.length)) (w.alloc (.cells (us.map (·.cells.toList)).flatten.toArray e)):=fun {e t} hu hio hc hsz=>by
  have:=jc (w:=w) hu hio us hc (by omega) hsz
  rw [hul] at this ⊢
  simp only [execOp,ho,hpe,Sem.run_bind,this,Result.andThen_ok,Sem.run_pure]
 have gen:∀t:Ty,lk E.ty T=some (.sl t)→(bif Nat.ble (vs.length*t.size) 16777216 then asEls t vs fun f xs=>forceL (H++ [.row (t.flat||f) t xs]) ((fun v H=>K v σ H) (.own t H.length)) else False)→a8 E.glob base w0 a.tmps.toList K P o a w:=fun t hT h=>by
  obtain⟨e,hu,hio,hpos⟩:=(az hE hT).sl
  obtain⟨hsz0,h⟩:=aO h
  have hsz0:=eO hsz0
  rw [hvs.length] at hsz0
  obtain⟨f,xs,h1,h2,h34⟩:=ra h hvs
  obtain⟨h3,h4⟩:=h34 f (fun e=>e) fun g hg=>(hst.sub g hg).1
  have h1:=(aA _ _).1 h1
  have hsz1:us.length*t.size≤16777216:=by omega
  have hr:=hrunOp hu hio h3 hsz1
  have hfl:((us.map (·.cells.toList)).flatten).length=us.length*t.size:=by
   rw [bR t.size];· simp
   intro l hl
   obtain⟨u,hu,rfl⟩:=List.mem_map.1 hl
   simpa using h3 u hu
  obtain⟨hst',hext⟩:=jk (f:=t.flat||f) hst (us.map (·.cells.toList)).flatten.toArray e (by rw [h2];simpa using Nat.le_of_eq hfl.symm) (fun i x hx=>by
   obtain⟨es,e1,e2⟩:=h4 i x hx
   refine⟨es,?_,fun j v hj=>by simpa using e2 j v hj⟩
   cases ht:t.flat with
   |true=>exact aJ.flat _ _ _ ht e1
   |false=>simpa using e1)
  have hown:=tw (f:=t.flat||f) hst (t:=t) (xs:=xs) (us.map (·.cells.toList)).flatten.toArray e us.length (by omega) (by unfold maxLen;omega) (by simpa using Nat.le_of_eq hfl.symm)
  rw [h2] at hown
  exact .inl ⟨_,_,hr,_,σ,_,_,h1,hown,hσ.ext hext,hst'⟩
 unfold abuildSlice at h
 split at h
 ·rename_i t hT
  obtain⟨e,hu,hio,hpos⟩:=(az hE hT).sl
  cases hfz:(br E.frz 1000002&&mr vs) with
  |true=>rw [hfz] at h;exact gen _ hT h
  |false=>
  rw [hfz] at h
  simp only [cond_false] at h
  obtain⟨hall,h⟩:=aO h
  have h:=(aA _ _).1 h
  have hone:=eA hvs hall
  have hcl:∀u∈us,u.cells= #[u]:=fun u hu=>by have:=hone u hu;cases u<;>first|rfl|simp [Value.oneCell'] at this
  have hfl:(us.map (·.cells.toList)).flatten=us:=by
   have:us.map (·.cells.toList)=us.map fun u=> [u]:=List.map_congr_left fun u hu=>by rw [hcl u hu]
   rw [this]
   exact rI us
  have hr:=hrunOp hu hio (fun u hu=>by rw [hcl u hu];rfl) (by show us.length*1≤_;omega)
  rw [hfl] at hr
  obtain⟨hst',hext⟩:=io (cs:=vs) hst us.toArray e (by simpa using hvs) (by simpa using hone)
  refine .inl ⟨_,_,hr,_,σ,_,_,h,?_,hσ.ext hext,hst'⟩
  refine .own (.sl t) H.length us.length _ us.length (by simp [aE,aP,hvs.length,Ty.size]) (Nat.le_refl _) (by unfold maxLen;omega) (.inr ⟨w.heap.size,e,us.toArray,by simp [Cx.push],by simp [Cx.push],heap_alloc_new w _,by simp [Ty.size,Cx.push]⟩)
 ·rename_i t hne hT
  exact gen _ hT h
 ·exact h.elim
end
end
end Go.Proofs.YtogipicegdbhdaaDoor.Vc

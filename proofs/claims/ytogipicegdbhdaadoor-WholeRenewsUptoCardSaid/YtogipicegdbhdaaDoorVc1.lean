/- Texts of this claim. -/
import Derived.Test.YtogipicegdbhdaaDoorVc0
import Derived.Laws.AppendOwn
import Derived.Laws.MakeOwn
import Derived.MapKept
import Derived.RangeFuncOwn
import Derived.CallsIn
import Derived.RangeFuncRecord
import Derived.Laws.Entries
import Derived.Laws.BitsLemmas
import Derived.Laws.Small
import Derived.IntWalk
import Derived.Laws.Strings
import Derived.Laws.Concat
import Derived.Laws.Cells
import Derived.Laws.Slices
set_option linter.unusedVariables false
set_option linter.unusedSimpArgs false
namespace Go.Proofs.YtogipicegdbhdaaDoor.Vc
open Go Go.RowKit Go.MapKept
section
structure Xt where
 gh:List Value
 k:Option Nat
 l:Nat

structure Cx where
 M:Nat→Prop
 N:Nat→Prop
 ρ:Nat→Option Nat
 β:Nat→Nat
 x:Xt
 gi:Option Nat

structure W0 where
 w:World
 D:Nat→Option Obj
 Z:Nat→Option (Nat×TypeId)
 X:Nat→Prop
 mks:Nat→Prop
 J:Option Nat→(Nat→Prop)→World→Prop
 gh:List Value
 l:Nat

def Cx.im (c:Cx) (fr:Bool):Nat→Prop:=bif fr then c.N else c.M

def aJ (w:World) (M:Nat→Prop):(t:Ty)→t.D→List Value→Prop
 |.u8,x,cs=>cs= [.int .u8 (x.toNat:Int)]
 |.int k,n,cs=>cs= [.int k n]∧k.min≤n∧n≤k.max
 |.bool,b,cs=>cs= [.bool b]
 |.str,s,cs=>cs= [.string ⟨s.toArray⟩]∧s.length≤maxLen
 | .sl t,xs,cs=>∃a cap,cs= [.slice a xs.length cap]∧xs.length≤cap∧cap≤maxLen∧
   (xs≠ []→∃g o,a=some ⟨g,o,none⟩∧M g∧∀(i:Nat) (x:t.D),(xs:List t.D)[i]? =some x→∃es:List Value,aJ w M t x es∧∀(j:Nat) (v:Value),es[j]? =some v→w.cell? ⟨g,o+i*t.size+j,none⟩=some v)
 |.nil,_,cs=>cs= []
 |.cons t ts,x,cs=>∃c1 c2,cs=c1++c2∧aJ w M t x.1 c1∧aJ w M ts x.2 c2
 |.arr n t,xs,cs=>(xs:List t.D).length=n∧∃ess:List (List Value),cs=ess.flatten∧ess.length=n∧∀(i:Nat) (x:t.D) (es:List Value),(xs:List t.D)[i]? =some x→ess[i]? =some es→aJ w M t x es
 |.fnT,_,cs=>cs= [.nilFunc]
 |.mapT _,_,cs=>cs= [.map none]

theorem aJ.ext {w w':World} {M M':Nat→Prop} (hM:∀g,M g→M' g) (hw:∀g,M g→w'.heap[g]? =w.heap[g]?):
  ∀(t:Ty) (x:t.D) (cs:List Value),aJ w M t x cs→aJ w' M' t x cs
 |.u8,_,_,h=>h
 |.int _,_,_,h=>h
 |.bool,_,_,h=>h
 |.str,_,_,h=>h
 |.sl t,xs,cs,h=>by
  obtain⟨a,cap,h1,h2,h3,h4⟩:=h
  refine⟨a,cap,h1,h2,h3,fun hne=> ?_⟩
  obtain⟨g,o,ha,hg,hx⟩:=h4 hne
  refine⟨g,o,ha,hM g hg,fun i x hi=> ?_⟩
  obtain⟨es,he,hc⟩:=hx i x hi
  exact⟨es,aJ.ext hM hw t x es he,fun j v hj=>(World.cell?_of_block (w:=w) (hw g hg)).trans (hc j v hj)⟩
 |.nil,_,_,h=>h
 |.cons t ts,x,cs,h=>by
  obtain⟨c1,c2,h1,h2,h3⟩:=h
  exact⟨c1,c2,h1,aJ.ext hM hw t x.1 c1 h2,aJ.ext hM hw ts x.2 c2 h3⟩
 |.arr n t,xs,cs,h=>by
  obtain⟨h0,ess,h1,h2,h3⟩:=h
  exact⟨h0,ess,h1,h2,fun i x es hi he=>aJ.ext hM hw t x es (h3 i x es hi he)⟩
 |.fnT,_,_,h=>h
 |.mapT _,_,_,h=>h

theorem bR {α:Type} (n:Nat):∀(l:List (List α)),(∀e∈l,e.length=n)→l.flatten.length=l.length*n
 |[],_=>by simp
 |e::l,h=>by
  rw [List.flatten_cons,List.length_append,h e (by simp),bR n l fun e he=>h e (by simp [he]),List.length_cons,Nat.succ_mul,Nat.add_comm]

theorem aJ.length {w:World} {M:Nat→Prop}:∀(t:Ty) (x:t.D) (cs:List Value),aJ w M t x cs→cs.length=t.size
 |.u8,_,_,h=>by rw [h];rfl
 |.int _,_,_,h=>by rw [h.1];rfl
 |.bool,_,_,h=>by rw [h];rfl
 |.str,_,_,h=>by rw [h.1];rfl
 |.sl t,xs,cs,h=>by obtain⟨a,cap,h1,_⟩:=h;rw [h1];rfl
 |.nil,_,_,h=>by rw [h];rfl
 |.cons t ts,x,cs,h=>by
  obtain⟨c1,c2,h1,h2,h3⟩:=h
  rw [h1,List.length_append,aJ.length t _ _ h2,aJ.length ts _ _ h3];rfl
 |.arr n t,xs,cs,h=>by
  obtain⟨h0,ess,h1,h2,h3⟩:=h
  rw [h1,bR t.size,h2];· rfl
  intro e he
  obtain⟨i,hi⟩:=List.mem_iff_getElem?.1 he
  have hlt:i<ess.length:=(List.getElem?_eq_some_iff.1 hi).1
  have hx:(xs:List t.D)[i]? =some ((xs:List t.D)[i]'(by omega)):=List.getElem?_eq_getElem (by omega)
  exact aJ.length t _ _ (h3 i _ e hx hi)
 |.fnT,_,_,h=>by rw [h];rfl
 |.mapT _,_,_,h=>by rw [h];rfl

def aE (H:List Blk) (id:Nat):Option (Nat×Nat):=
 match aD H id with
 |.dead=>none
 |.row _ t xs=>some (xs.length,t.size)
 |.cells cs=>some (cs.length,1)
 |.imap _ _ _=>some (0,0)
 |.mit _ _ _ _=>some (1,1)

def cI (c:Cx) (w:World) (id z off:Nat) (a:Option Addr) (cap:Nat):Prop:=
 ∃g e cur,c.ρ id=some g∧a=some ⟨g,c.β id+off,none⟩∧w.heap[g]? =some (.cells cur e (0,0))∧c.β id+off+cap*z≤cur.size

mutual
inductive VRel (c:Cx) (H:List Blk) (w:World):V→Value→Prop
 |undef (v:Value):VRel c H w .undef v
 |nope:VRel c H w .nope Go.undef
 |int (k:IntKind) (n:Int) (h1:k.min≤n) (h2:n≤k.max):VRel c H w (.int k n) (.int k n)
 |u8 (x:UInt8):VRel c H w (.u8 x) (.int .u8 (x.toNat:Int))
 |b (p:Prop) (x:Bool) (h:x=true↔p):VRel c H w (.b p) (.bool x)
 |bt (x:Bool):VRel c H w (.bt x) (.bool x)
 |str (s:List UInt8) (h:s.length≤maxLen):VRel c H w (.str s) (.string ⟨s.toArray⟩)
 |nils:VRel c H w .nils (.slice none 0 0)
 |sl (fr:Bool) (t:Ty) (xs:List t.D) (v:Value) (h:aJ w (c.im fr) (.sl t) xs [v]):VRel c H w (.sl fr t xs) v
 |own (t:Ty) (id n:Nat) (a:Option Addr) (cap:Nat) (hs:aE H id=some (n,t.size)) (hn:n≤cap) (hc:cap≤maxLen) (ho:cap=0∨cI c w id t.size 0 a cap):VRel c H w (.own t id) (.slice a n cap)
 | slc (t:Ty) (id off n m:Nat) (a:Option Addr) (cap:Nat) (hs:aE H id=some (m,t.size)) (hm:off+n≤m) (hn:n≤cap) (hc:cap≤maxLen) (ho:cap=0∨cI c w id t.size (off*t.size) a cap):
   VRel c H w (.slc t id off n) (.slice a n cap)
 | rp (fr:Bool) (t:Ty) (x:t.D) (o g p:Nat) (es:List Value) (hM:c.im fr g) (hd:aJ w (c.im fr) t x es) (hc:∀j v,es[j]? =some v→w.cell? ⟨g,p+j,none⟩=some v):
   VRel c H w (.rp fr t x o) (.pointer (some ⟨g,p+o,none⟩))
 |ptr (id z i o g m:Nat) (hs:aE H id=some (m,z)) (hr:c.ρ id=some g) (hi:i<m) (ho:o<z):VRel c H w (.ptr id z i o) (.pointer (some ⟨g,c.β id+(i*z+o),none⟩))
 |agg (cs:List V) (vs:List Value) (h:VRels c H w cs vs):VRel c H w (.agg cs) (.agg vs.toArray)
 |tup (cs:List V) (vs:List Value) (h:VRels c H w cs vs):VRel c H w (.tup cs) (.tuple vs.toArray)
 |fn (f:Nat) (cs:List V) (vs:List Value) (h:VRels c H w cs vs):VRel c H w (.fn f cs) (.func (.func f) #[] vs.toArray)
 |nilfn:VRel c H w .nilfn .nilFunc
 |yld (k:Option Nat) (h:k=c.x.k):VRel c H w (.yld k) (.func (.yield c.x.l) #[] #[])
 |dat (fr:Bool) (t:Ty) (x:t.D) (es:List Value) (h:aJ w (c.im fr) t x es):VRel c H w (.dat fr t x) (.agg es.toArray)
 |rb (x:V) (v:Value) (g p:Nat) (hM:c.M g) (hc:w.cell? ⟨g,p,none⟩=some v) (h:VRel c H w x v):VRel c H w (.rb x) (.pointer (some ⟨g,p,none⟩))
 |mp (t:Ty) (id g:Nat) (hs:aE H id=some (0,0)) (hr:c.ρ id=some g):VRel c H w (.mp t id) (.map (some g))
inductive VRels (c:Cx) (H:List Blk) (w:World):List V→List Value→Prop
 |nil:VRels c H w [] []
 |cons (x:V) (v:Value) (xs:List V) (vs:List Value) (h:VRel c H w x v) (hs:VRels c H w xs vs):VRels c H w (x::xs) (v::vs)
end

structure Ext (c:Cx) (H:List Blk) (w:World) (c':Cx) (H':List Blk) (w':World):Prop where
 M:∀g,c.M g→c'.M g
 N:∀g,c.N g→c'.N g
 mem:∀g,c.M g∨c.N g→w'.heap[g]? =w.heap[g]?
 shp:∀id s,aE H id=some s→aE H' id=some s∧c'.ρ id=c.ρ id
 siz:∀id s g cur e,aE H id=some s→c.ρ id=some g→w.heap[g]? =some (.cells cur e (0,0))→∃cur',w'.heap[g]? =some (.cells cur' e (0,0))∧cur'.size=cur.size
 x:c'.x=c.x
 gi:c'.gi=c.gi
 bas:∀id s,aE H id=some s→c'.β id=c.β id

theorem Ext.refl (c:Cx) (H:List Blk) (w:World):Ext c H w c H w:=
 ⟨fun _ h=>h,fun _ h=>h,fun _ _=>rfl,fun _ _ h=>⟨h,rfl⟩,fun _ _ _ cur _ _ _ h=>⟨cur,h,rfl⟩,rfl,rfl,fun _ _ _=>rfl⟩

theorem Ext.trans {c c1 c2:Cx} {H H1 H2:List Blk} {w w1 w2:World} (a:Ext c H w c1 H1 w1) (b:Ext c1 H1 w1 c2 H2 w2):Ext c H w c2 H2 w2 where
 M g h:=b.M g (a.M g h)
 N g h:=b.N g (a.N g h)
 mem g h:=(b.mem g (h.imp (a.M g) (a.N g))).trans (a.mem g h)
 shp id s h:=⟨(b.shp id s (a.shp id s h).1).1,(b.shp id s (a.shp id s h).1).2.trans (a.shp id s h).2⟩
 siz id s g cur e hs hr hg:=by
  obtain⟨cur1,h1,h2⟩:=a.siz id s g cur e hs hr hg
  obtain⟨hs1,hr1⟩:=a.shp id s hs
  obtain⟨cur2,h3,h4⟩:=b.siz id s g cur1 e hs1 (hr1.trans hr) h1
  exact⟨cur2,h3,h4.trans h2⟩
 x:=b.x.trans a.x
 gi:=b.gi.trans a.gi
 bas id s h:=(b.bas id s (a.shp id s h).1).trans (a.bas id s h)

theorem Ext.im {c c':Cx} {H H':List Blk} {w w':World} (e:Ext c H w c' H' w') (fr:Bool):∀g,c.im fr g→c'.im fr g:=by
 cases fr
 ·exact e.M
 ·exact e.N
theorem Ext.imem {c c':Cx} {H H':List Blk} {w w':World} (e:Ext c H w c' H' w') (fr:Bool):∀g,c.im fr g→w'.heap[g]? =w.heap[g]? :=by
 cases fr
 ·exact fun g h=>e.mem g (.inl h)
 ·exact fun g h=>e.mem g (.inr h)

theorem Ext.drel {c c':Cx} {H H':List Blk} {w w':World} (e:Ext c H w c' H' w') {fr:Bool} {t:Ty} {x:t.D} {cs:List Value} (h:aJ w (c.im fr) t x cs):aJ w' (c'.im fr) t x cs:=
 aJ.ext (e.im fr) (e.imem fr) t x cs h

theorem cI.ext {c c':Cx} {H H':List Blk} {w w':World} (e:Ext c H w c' H' w') {id z off:Nat} {a:Option Addr} {cap:Nat} {s:Nat×Nat} (hs:aE H id=some s) (h:cI c w id z off a cap):cI c' w' id z off a cap:=by
 obtain⟨g,el,cur,h1,h2,h3,h4⟩:=h
 obtain⟨cur',h5,h6⟩:=e.siz id s g cur el hs h1 h3
 exact⟨g,el,cur',(e.shp id s hs).2.trans h1,by rw [e.bas id s hs];exact h2,h5,by rw [e.bas id s hs];omega⟩

section
variable {c c':Cx} {H H':List Blk} {w w':World}
mutual
theorem VRel.ext (e:Ext c H w c' H' w'):∀{x:V} {v:Value},VRel c H w x v→VRel c' H' w' x v
 |_,_,.undef v=> .undef v
 |_,_,.int k n h1 h2=> .int k n h1 h2
 |_,_,.u8 x=> .u8 x
 |_,_,.b p x h=> .b p x h
 |_,_,.bt x=> .bt x
 |_,_,.nope=> .nope
 |_,_,.str s h=> .str s h
 |_,_,.nils=> .nils
 |_,_,.sl fr t xs v h=> .sl fr t xs v (e.drel h)
 |_,_,.own t id n a cap hs hn hc ho=> .own t id n a cap (e.shp id _ hs).1 hn hc (ho.imp (fun h=>h) (cI.ext e hs))
 |_,_,.slc t id off n m a cap hs hm hn hc ho=> .slc t id off n m a cap (e.shp id _ hs).1 hm hn hc (ho.imp (fun h=>h) (cI.ext e hs))
 |_,_,.rp fr t x o g p es hM hd hc=> .rp fr t x o g p es (e.im fr g hM) (e.drel hd) fun j v hj=>(World.cell?_of_block (w:=w) (e.imem fr g hM)).trans (hc j v hj)
 |_,_,.ptr id z i o g m hs hr hi ho=>by rw [←e.bas id _ hs];exact .ptr id z i o g m (e.shp id _ hs).1 ((e.shp id _ hs).2.trans hr) hi ho
 |_,_,.agg cs vs h=> .agg cs vs (VRels.ext e h)
 |_,_,.tup cs vs h=> .tup cs vs (VRels.ext e h)
 |_,_,.fn f cs vs h=> .fn f cs vs (VRels.ext e h)
 |_,_,.nilfn=> .nilfn
 |_,_,.yld k h=>by
  have:=VRel.yld (c:=c') (H:=H') (w:=w') k (by rw [e.x];exact h)
  rwa [e.x] at this
 |_,_,.dat fr t x es h=> .dat fr t x es (e.drel h)
 |_,_,.rb x v g p hM hc h=> .rb x v g p (e.M g hM) ((World.cell?_of_block (w:=w) (e.mem g (.inl hM))).trans hc) (VRel.ext e h)
 |_,_,.mp t id g hs hr=> .mp t id g (e.shp id _ hs).1 ((e.shp id _ hs).2.trans hr)
theorem VRels.ext (e:Ext c H w c' H' w'):∀{xs:List V} {vs:List Value},VRels c H w xs vs→VRels c' H' w' xs vs
 |_,_,.nil=> .nil
 |_,_,.cons x v xs vs h hs=> .cons x v xs vs (VRel.ext e h) (VRels.ext e hs)
end
end

theorem VRels.length {c:Cx} {H:List Blk} {w:World}:∀{xs:List V} {vs:List Value},VRels c H w xs vs→xs.length=vs.length
 |_,_,.nil=>rfl
 |_,_,.cons _ _ _ _ _ hs=>congrArg (· +1) (VRels.length hs)

theorem VRels.get {c:Cx} {H:List Blk} {w:World}:∀{xs:List V} {vs:List Value},VRels c H w xs vs→∀i,VRel c H w (aL xs i) (vs.getD i undef)
 |_,_,.nil,i=> .undef _
 |_,_,.cons _ _ _ _ h hs,0=>h
 |_,_,.cons _ _ _ _ h hs,i+1=>VRels.get hs i

theorem VRels.set {c:Cx} {H:List Blk} {w:World} {x:V} {v:Value} (hx:VRel c H w x v):∀{xs:List V} {vs:List Value},VRels c H w xs vs→∀i,VRels c H w (bg xs i x) (vs.set i v)
 |_,_,.nil,i=> .nil
 |_,_,.cons _ _ _ _ h hs,0=> .cons _ _ _ _ hx hs
 |_,_,.cons _ _ _ _ h hs,i+1=> .cons _ _ _ _ h (VRels.set hx hs i)

theorem VRels.append {c:Cx} {H:List Blk} {w:World}:∀{xs:List V} {vs:List Value} {ys:List V} {us:List Value},VRels c H w xs vs→VRels c H w ys us→VRels c H w (xs++ys) (vs++us)
 |_,_,_,_,.nil,h=>h
 |_,_,_,_,.cons x v xs vs h hs,h'=> .cons _ _ _ _ h (VRels.append hs h')

theorem VRels.undefs {c:Cx} {H:List Blk} {w:World} (v:Value):∀n,VRels c H w (List.replicate n .undef) (List.replicate n v)
 |0=> .nil
 |n+1=> .cons _ _ _ _ (.undef _) (VRels.undefs v n)

def Stm (ents:Array MapEntry) (clock:Nat):Prop:=Stamped ents clock∧clock=ents.size∧∀(i:Nat) (e:MapEntry),ents[i]? =some e→e.born=i
def kB (t:Ty) (v:Value):Prop:=match t with
 |.nil| .cons _ _| .arr _ _=>v= .agg v.cells
 |_=>v.oneCell'=true
def ig (c:Cx) (H:List Blk) (w:World) (id:Nat):Blk→Prop
 |.dead=>True
 | .row fr t xs=>(c.ρ id=none∧xs= [])∨∃g e cur,c.ρ id=some g∧w.heap[g]? =some (.cells cur e (0,0))∧c.β id+xs.length*t.size≤cur.size∧
   ∀(i:Nat) (x:t.D),xs[i]? =some x→∃es:List Value,aJ w (c.im fr) t x es∧∀(j:Nat) (v:Value),es[j]? =some v→cur[c.β id+(i*t.size+j)]? =some v
 |.cells cs=>(∃g e cur,c.ρ id=some g∧w.heap[g]? =some (.cells cur e (0,0))∧(c.β id=0∧cs.length≤cur.size)∧∀j,j<cs.length→∃v,cur[c.β id+j]? =some v∧v.oneCell'=true∧VRel c H w (aL cs j) v)∨
  (c.gi=some id∧c.ρ id=none∧VRels c H w cs c.x.gh)
 | .imap fr t es=>∃g ents clock,c.ρ id=some g∧w.heap[g]? =some (.map ents clock)∧(ents.size=es.length∧es.length≤maxLen)∧Stm ents clock∧(es.map (·.1)).Nodup∧
   ∀(i:Nat) (n:Int) (x:t.D),es[i]? =some (n,x)→∃v b,ents[i]? =some ⟨.int .i64 n,v,b⟩∧((IntKind.i64.min≤n∧n≤IntKind.i64.max)∧kB t v)∧aJ w (c.im fr) t x v.cells.toList
 |.mit (some mid) n s l=>∃g gm z,c.ρ id=some g∧w.heap[g]? =some (.mapIter (some gm) n (s++l.toList).toArray n)∧c.ρ mid=some gm∧aE H mid=some z∧(∀j∈s++l.toList,j<n)∧c.β id=0
 |.mit none _ _ _=>True

structure Xk (base:Nat) (w0:W0) (c:Cx) (w:World):Prop where
 keep:∀g o,w0.D g=some o→w.heap[g]? =some o∧∀i,c.ρ i≠some g
 siz:∀g n,w0.Z g=some n→∃cur,w.heap[g]? =some (.cells cur n.2 (0,0))∧cur.size=n.1
 cnt:w0.J c.x.k w0.X w0.w
 gh:c.x.gh=w0.gh
 l:c.x.l=w0.l
 dis:∀g,c.M g→¬w0.X g
 xb:∀g,w0.X g→g<w.heap.size∧∀i,c.ρ i≠some g
 mks:∀g,w0.mks g→base≤g∧w0.X g∧w0.D g=some (.deferred (some []))
 gi:w0.gh= []→c.gi=none

structure St (G:List (Nat×V)) (base:Nat) (w0:W0) (c:Cx) (H:List Blk) (w:World):Prop where
 below:Below base w0.w w
 xk:Xk base w0 c w
 size:base≤w.heap.size
 blk:∀id,ig c H w id (aD H id)
 inj:∀i j g,c.ρ i=some g→c.ρ j=some g→i=j
 own:∀i g,c.ρ i=some g→base≤g∧g<w.heap.size∧¬c.M g∧i<H.length
 imm:∀g,c.M g→g<w.heap.size
 sub:∀g,c.N g→c.M g∧base≤g
 glob:∀g x,lk G g=some x→VRel c H w x (.pointer (some ⟨g,0,none⟩))

theorem Xk.step {base:Nat} {w0:W0} {c c':Cx} {w w':World} (h:Xk base w0 c w) (hx:c'.x=c.x) (hgi:c.gi=none→c'.gi=none) (hM:∀g,c'.M g→c.M g∨(∃j,c.ρ j=some g)∨w.heap.size≤g)
  (hρ:∀i g,c'.ρ i=some g→(∃j,c.ρ j=some g)∨w.heap.size≤g)
  (hw:∀(g:Nat) (o:Obj),w.heap[g]? =some o→w'.heap[g]? =some o∨(∃id cur e cur',c.ρ id=some g∧o= .cells cur e (0,0)∧w'.heap[g]? =some (.cells cur' e (0,0))∧cur'.size=cur.size)∨∃id,c.ρ id=some g∧o.isCells=false∧g<w'.heap.size):Xk base w0 c' w' where
 keep g o hd:=by
  obtain⟨h1,h2⟩:=h.keep g o hd
  refine⟨?_,fun i hi=> ?_⟩
  ·rcases hw g o h1 with h|⟨id,_,_,_,hr,_⟩|⟨id,hr,_⟩
   ·exact h
   ·exact absurd hr (h2 id)
   ·exact absurd hr (h2 id)
  ·rcases hρ i g hi with⟨j,hj⟩|hge
   ·exact h2 j hj
   ·have:=(Array.getElem?_eq_some_iff.1 h1).1;omega
 siz g n hz:=by
  obtain⟨cur,h1,h2⟩:=h.siz g n hz
  rcases hw g _ h1 with h|⟨id,cur2,e2,cur',hr,ho,h3,h4⟩|⟨id,hr,ho,_⟩
  ·exact⟨cur,h,h2⟩
  ·cases ho;exact⟨cur',h3,h4.trans h2⟩
  ·cases ho
 cnt:=by rw [hx];exact h.cnt
 gh:=by rw [hx];exact h.gh
 l:=by rw [hx];exact h.l
 dis g hg:=by
  intro hX
  obtain⟨h1,h2⟩:=h.xb g hX
  rcases hM g hg with hg|⟨j,hj⟩|hg
  ·exact h.dis g hg hX
  ·exact h2 j hj
  ·omega
 xb g hX:=by
  obtain⟨h1,h2⟩:=h.xb g hX
  refine⟨?_,fun i hi=> ?_⟩
  ·rcases hw g _ (Array.getElem?_eq_getElem h1) with h3|⟨_,_,_,_,_,_,h3,_⟩|⟨_,_,_,h3⟩
   ·exact(Array.getElem?_eq_some_iff.1 h3).1
   ·exact(Array.getElem?_eq_some_iff.1 h3).1
   ·exact h3
  ·rcases hρ i g hi with⟨j,hj⟩|hge
   ·exact h2 j hj
   ·omega
 mks:=h.mks
 gi hg:=hgi (h.gi hg)
end
open Go Go.RowKit
section
theorem aP (H:List Blk) (b:Blk):∀id,aD (H++ [b]) id=if id=H.length then b else aD H id:=by
 induction H with
 |nil=>intro id;cases id<;>simp [aD]
 |cons x H ih=>
  intro id
  cases id with
  |zero=>simp [aD]
  |succ id=>simp [aD,ih]
theorem bB (H:List Blk):∀id,H.length≤id→aD H id= .dead:=by
 induction H with
 |nil=>intro id _;cases id<;>rfl
 |cons x H ih=>
  intro id h
  cases id with
  |zero=>simp at h
  |succ id=>exact ih id (by simpa using h)
theorem aG (H:List Blk) (b:Blk):∀id j,aD (aH H id b) j=if j=id∧id<H.length then b else aD H j:=by
 induction H with
 |nil=>intro id j;cases j<;>simp [aH,aD]
 |cons x H ih=>
  intro id j
  cases id<;>cases j<;>simp [aH,aD,ih]
theorem aM (H:List Blk) (b:Blk):∀id,(aH H id b).length=H.length:=by
 induction H with
 |nil=>intro id;rfl
 |cons x H ih=>intro id;cases id<;>simp [aH,ih]
theorem cV {H:List Blk} {id:Nat} {s:Nat×Nat} (h:aE H id=some s):id<H.length:=by
 rcases Nat.lt_or_ge id H.length with h'|h'
 ·exact h'
 ·simp [aE,bB H id h'] at h
theorem fW (l:List V):∀i,aL l i=l.getD i .undef:=by
 induction l with
 |nil=>intro i;cases i<;>rfl
 |cons x l ih=>intro i;cases i with
  |zero=>rfl
  |succ i=>simp [aL,ih]
theorem gV (l:List V):∀i x,bg l i x=l.set i x:=by
 induction l with
 |nil=>intro i x;cases i<;>rfl
 |cons y l ih=>intro i x;cases i with
  |zero=>rfl
  |succ i=>simp [bg,ih]
theorem fR (n:Nat) (K:Nat→Prop):qS n K↔K n:=by
 unfold qS
 split<;>exact Iff.rfl
theorem aR (v:V) (K:V→Prop):forceV v K↔K v:=by cases v<;>first|exact Iff.rfl|(rename_i x;cases x<;>exact Iff.rfl)
theorem wb (v:V) (K:V→Prop):A1 v K↔K v:=by
 unfold A1
 split
 case h_1 t i=>exact fR i fun i=>K (.own t i)
 case h_2 t i o l=>exact fR i fun i=>K (.slc t i o l)
 case h_3 i z j o=>exact fR i fun i=>K (.ptr i z j o)
 case h_4 t i=>exact fR i fun i=>K (.mp t i)
 case h_5=>exact aR _ _
theorem eG:∀(l:List V) (K:List V→Prop),gk l K↔K l
 |[],_=>Iff.rfl
 |x::l,K=>(wb x fun x=>gk l fun l=>K (x::l)).trans (eG l fun l=>K (x::l))
theorem wZ (v:V) (K:V→Prop):Ij v K↔K v:=by
 unfold Ij
 split
 case h_1 t i=>exact fR i fun i=>K (.own t i)
 case h_2 t i o l=>exact fR i fun i=>K (.slc t i o l)
 case h_3 i z j o=>exact fR i fun i=>K (.ptr i z j o)
 case h_4 t i=>exact fR i fun i=>K (.mp t i)
 case h_5 cs=>exact eG cs fun cs=>K (.agg cs)
 case h_6 cs=>exact eG cs fun cs=>K (.tup cs)
 case h_7 f cs=>exact eG cs fun cs=>K (.fn f cs)
 case h_8=>exact aR _ _
theorem aA {α:Type} (l:List α):∀K:List α→Prop,forceL l K↔K l:=by
 induction l with
 |nil=>intro K;exact Iff.rfl
 |cons x l ih=>intro K;exact ih _
theorem Ej (b:Blk) (K:Blk→Prop):Jh b K↔K b:=by
 cases b with
 |cells cs=>exact eG cs fun cs=>K (.cells cs)
 |mit mid n s l=>
  cases mid with
  |none=>exact Iff.rfl
  |some mid=>exact fR mid fun mid=>K (.mit (some mid) n s l)
 |_=>exact Iff.rfl
theorem ka:∀(H:List Blk) (K:List Blk→Prop),jB H K↔K H
 |[],K=>Iff.rfl
 |b::l,K=>(Ej b fun b=>jB l fun l=>K (b::l)).trans (ka l fun l=>K (b::l))
theorem di {E:Env} {σ:List V} {H:List Blk} {T:TypeId} {x y:V} {K:V→List V→List Blk→Prop}:aappendB E σ H T x y K=bif dL H y then aappendC E σ H T x y K else aappend E σ H T x y K:=by
 unfold aappendB
 rw [show(fun v σ H=>gk σ fun σ=>jB H fun H=>K v σ H)=K from funext fun v=>funext fun σ=>funext fun H=>propext ((eG σ _).trans (ka H _))]
theorem wa (v:V) (K:V→Prop):A0 v K↔K v:=by
 unfold A0
 split
 ·rename_i cs;exact eG cs fun cs=>K (.agg cs)
 ·exact wb _ _
theorem sZ:∀(l:List V) (K:List V→Prop),uC l K↔K l
 |[],K=>Iff.rfl
 |x::l,K=>(wa x fun x=>uC l fun l=>K (x::l)).trans (sZ l fun l=>K (x::l))
theorem jq (v:V) (H:List Blk) (R:V→List Blk→Prop):nrm v H R↔R v H:=by
 unfold nrm
 split
 ·rename_i vs;exact(sZ vs fun vs=>jB H fun H=>R (.tup vs) H).trans (ka H fun H=>R (.tup vs) H)
 ·exact(wa _ fun v=>jB H fun H=>R v H).trans (ka H fun H=>R _ H)

theorem ig.keep {c c':Cx} {H H':List Blk} {w w':World} (e:Ext c H w c' H' w') {id:Nat} {b:Blk} (hr:b≠ .dead→c'.ρ id=c.ρ id) (hβ:b≠ .dead→c'.β id=c.β id)
  (hg:∀g,c.ρ id=some g→w'.heap[g]? =w.heap[g]?) (h:ig c H w id b):ig c' H' w' id b:=by
 cases b with
 |dead=>trivial
 | row fr t xs=>
  rcases h with⟨h1,h2⟩|⟨g,el,cur,h1,h2,h3,h4⟩
  ·exact .inl ⟨(hr (by simp)).trans h1,h2⟩
  ·refine .inr ⟨g,el,cur,(hr (by simp)).trans h1,(hg g h1).trans h2,by rw [hβ (by simp)];exact h3,fun i x hi=> ?_⟩
   rw [hβ (by simp)]
   obtain⟨es,h5,h6⟩:=h4 i x hi
   exact⟨es,e.drel h5,h6⟩
 | cells cs=>
  rcases h with⟨g,el,cur,h1,h2,h3,h4⟩|⟨h0,h1,h2⟩
  ·refine .inl ⟨g,el,cur,(hr (by simp)).trans h1,(hg g h1).trans h2,by rw [hβ (by simp)];exact h3,fun j hj=> ?_⟩
   rw [hβ (by simp)]
   obtain⟨v,h5,h6,h7⟩:=h4 j hj
   exact⟨v,h5,h6,h7.ext e⟩
  ·exact .inr ⟨e.gi.trans h0,(hr (by simp)).trans h1,by rw [e.x];exact VRels.ext e h2⟩
 |imap fr t es=>
  obtain⟨g,ents,clock,h1,h2,h3,h4,h5,h6⟩:=h
  refine⟨g,ents,clock,(hr (by simp)).trans h1,(hg g h1).trans h2,h3,h4,h5,fun i n x hi=> ?_⟩
  obtain⟨v,b,h7,h8,h9⟩:=h6 i n x hi
  exact⟨v,b,h7,h8,e.drel h9⟩
 |mit mid n s l=>
  cases mid with
  |none=>trivial
  |some mid=>
  obtain⟨g,gm,z,h1,h2,h3,h4,h5,h6⟩:=h
  exact⟨g,gm,z,(hr (by simp)).trans h1,(hg g h1).trans h2,(e.shp mid z h4).2.trans h3,(e.shp mid z h4).1,h5,(hβ (by simp)).trans h6⟩

def Cx.push (c:Cx) (n g:Nat):Cx:={c with ρ:=fun i=>if i=n then some g else c.ρ i,β:=fun i=>if i=n then 0 else c.β i}
theorem bF (c:Cx) (n g:Nat):(c.push n g).β n=0:=by simp [Cx.push]

section
variable {G:List (Nat×V)} {base:Nat} {w0:W0} {c:Cx} {H:List Blk} {w:World}

theorem St.rho_none (h:St G base w0 c H w):c.ρ H.length=none:=by
 cases hr:c.ρ H.length with
 |none=>rfl
 |some g=>exact absurd (h.own _ g hr).2.2.2 (Nat.lt_irrefl _)

theorem bj {b:Blk} {id:Nat} {s:Nat×Nat} (h:aE H id=some s):aE (H++ [b]) id=some s:=by
 have:=cV h
 unfold aE at*
 rw [aP,if_neg (by omega)]
 exact h

theorem St.ext_pushO (h:St G base w0 c H w) (b:Blk) (ob:Obj):Ext c H w (c.push H.length w.heap.size) (H++ [b]) (w.alloc ob) where
 M g hg:=hg
 N g hg:=hg
 mem g hg:=Below.heap_alloc w _ g (h.imm g (hg.elim id fun hn=>(h.sub g hn).1))
 shp id s hs:=⟨bj hs,by have:=cV hs;simp [Cx.push];omega⟩
 siz id s g cur' e' _ hr hg:=⟨cur',(Below.heap_alloc w _ g (h.own id g hr).2.1).trans hg,rfl⟩
 x:=rfl
 gi:=rfl
 bas id s hs:=by have:=cV hs;simp [Cx.push];omega

theorem St.ext_push (h:St G base w0 c H w) (b:Blk) (cur:Array Value) (e:TypeId):Ext c H w (c.push H.length w.heap.size) (H++ [b]) (w.alloc (.cells cur e)):=h.ext_pushO b _
theorem St.pushO (h:St G base w0 c H w) (b:Blk) (ob:Obj)
  (hb:ig (c.push H.length w.heap.size) (H++ [b]) (w.alloc ob) H.length b):St G base w0 (c.push H.length w.heap.size) (H++ [b]) (w.alloc ob) where
 below:=h.below.alloc h.size _
 xk:=h.xk.step rfl (fun h=>h) (fun g hg=> .inl hg) (fun i g hi=>by
  simp only [Cx.push] at hi
  split at hi
  ·exact .inr (by simp at hi;omega)
  ·exact .inl ⟨i,hi⟩) (fun g o ho=> .inl ((Below.heap_alloc w _ g (Array.getElem?_eq_some_iff.1 ho).1).trans ho))
 size:=by have:=h.size;simp;omega
 blk id:=by
  rw [aP]
  split
  ·rename_i hid;subst hid;exact hb
  ·rename_i hid
   exact ig.keep (h.ext_pushO b ob) (fun _=>by simp [Cx.push,hid]) (fun _=>by simp [Cx.push,hid]) (fun g hg=>Below.heap_alloc w _ g (h.own id g hg).2.1) (h.blk id)
 inj i j g hi hj:=by
  simp only [Cx.push] at hi hj
  split at hi<;>split at hj
  ·omega
  ·have:=(h.own j g hj).2.1;simp at hi;omega
  ·have:=(h.own i g hi).2.1;simp at hj;omega
  ·exact h.inj i j g hi hj
 own i g hi:=by
  simp only [Cx.push] at hi
  split at hi
  ·rename_i hid
   simp at hi
   subst hi
   have:=h.size
   exact⟨this,by simp,fun hm=>absurd (h.imm _ hm) (Nat.lt_irrefl _),by simp [hid]⟩
  ·obtain⟨h1,h2,h3,h4⟩:=h.own i g hi
   exact⟨h1,by simp;omega,h3,by simp;omega⟩
 imm g hg:=by have:=h.imm g hg;simp;omega
 sub:=h.sub
 glob g x hx:=(h.glob g x hx).ext (h.ext_pushO b ob)
theorem St.push (h:St G base w0 c H w) (b:Blk) (cur:Array Value) (e:TypeId)
  (hb:ig (c.push H.length w.heap.size) (H++ [b]) (w.alloc (.cells cur e)) H.length b):St G base w0 (c.push H.length w.heap.size) (H++ [b]) (w.alloc (.cells cur e)):=h.pushO b _ hb

theorem St.ext_virt (b:Blk):Ext c H w c (H++ [b]) w where
 M g hg:=hg
 N g hg:=hg
 mem g hg:=rfl
 shp id s hs:=⟨bj hs,rfl⟩
 siz id s g cur e _ _ hg:=⟨cur,hg,rfl⟩
 x:=rfl
 gi:=rfl
 bas _ _ _:=rfl

theorem St.virt (h:St G base w0 c H w) (fr:Bool) (t:Ty):St G base w0 c (H++ [.row fr t []]) w where
 below:=h.below
 xk:=h.xk
 size:=h.size
 blk id:=by
  rw [aP]
  split
  ·rename_i hid;subst hid;exact .inl ⟨h.rho_none,rfl⟩
  ·exact ig.keep (St.ext_virt _) (fun _=>rfl) (fun _=>rfl) (fun g _=>rfl) (h.blk id)
 inj:=h.inj
 own i g hi:=by
  obtain⟨h1,h2,h3,h4⟩:=h.own i g hi
  exact⟨h1,h2,h3,by simp;omega⟩
 imm:=h.imm
 sub:=h.sub
 glob g x hx:=(h.glob g x hx).ext (St.ext_virt _)

theorem St.ext_world {w':World} (h:St G base w0 c H w) (hb:Below w.heap.size w w'):Ext c H w c H w' where
 M g hg:=hg
 N g hg:=hg
 mem g hg:=hb.block g (h.imm g (hg.elim id fun hn=>(h.sub g hn).1))
 shp id s hs:=⟨hs,rfl⟩
 siz id s g cur e _ hr hg:=⟨cur,(hb.block g (h.own id g hr).2.1).trans hg,rfl⟩
 x:=rfl
 gi:=rfl
 bas _ _ _:=rfl

theorem St.world {w':World} (h:St G base w0 c H w) (hb:Below w.heap.size w w'):St G base w0 c H w' where
 below:=h.below.trans (hb.mono h.size)
 xk:=h.xk.step rfl (fun h=>h) (fun g hg=> .inl hg) (fun i g hi=> .inl ⟨i,hi⟩) (fun g o ho=> .inl ((hb.block g (Array.getElem?_eq_some_iff.1 ho).1).trans ho))
 size:=Nat.le_trans h.size hb.size
 blk id:=ig.keep (h.ext_world hb) (fun _=>rfl) (fun _=>rfl) (fun g hg=>hb.block g (h.own id g hg).2.1) (h.blk id)
 inj:=h.inj
 own i g hi:=by
  obtain⟨h1,h2,h3,h4⟩:=h.own i g hi
  exact⟨h1,Nat.lt_of_lt_of_le h2 hb.size,h3,h4⟩
 imm g hg:=Nat.lt_of_lt_of_le (h.imm g hg) hb.size
 sub:=h.sub
 glob g x hx:=(h.glob g x hx).ext (h.ext_world hb)

theorem St.ext_upd {w':World} (h:St G base w0 c H w) (id g:Nat) (b:Blk) (e:TypeId) (cur cur':Array Value) (hr:c.ρ id=some g) (hg:w.heap[g]? =some (.cells cur e (0,0)))
  (hsz:cur'.size=cur.size) (hw:w'.heap[g]? =some (.cells cur' e (0,0))) (hother:∀k,k≠g→w'.heap[k]? =w.heap[k]?) (hshape:aE (aH H id b) id=aE H id):
  Ext c H w c (aH H id b) w' where
 M g hg:=hg
 N g hg:=hg
 mem k hk:=hother k (fun e=>(h.own id g hr).2.2.1 (e▸hk.elim (fun h=>h) fun hn=>(h.sub k hn).1))
 shp i s hs:=by
  refine⟨?_,rfl⟩
  by_cases hi:i=id
  ·subst hi;rw [hshape];exact hs
  ·unfold aE at*
   rw [aG,if_neg (by simp [hi])]
   exact hs
 siz i s k cu el _ hri hk:=by
  by_cases hkg:k=g
  ·subst hkg
   rw [hg] at hk
   cases hk
   exact⟨cur',hw,hsz⟩
  ·exact⟨cu,(hother k hkg).trans hk,rfl⟩
 x:=rfl
 gi:=rfl
 bas _ _ _:=rfl

theorem St.upd {w':World} (h:St G base w0 c H w) (id g:Nat) (b:Blk) (e:TypeId) (cur cur':Array Value) (hr:c.ρ id=some g) (hg:w.heap[g]? =some (.cells cur e (0,0)))
  (hsz:cur'.size=cur.size) (hw:w'.heap[g]? =some (.cells cur' e (0,0))) (hother:∀k,k≠g→w'.heap[k]? =w.heap[k]?) (hshape:aE (aH H id b) id=aE H id)
  (hbel:Below base w w') (hb:ig c (aH H id b) w' id b):St G base w0 c (aH H id b) w' where
 below:=h.below.trans hbel
 xk:=h.xk.step rfl (fun h=>h) (fun g hg=> .inl hg) (fun i g hi=> .inl ⟨i,hi⟩) (fun k o ho=>by
  by_cases hk:k=g
  ·subst hk
   rw [hg] at ho
   cases ho
   exact .inr (.inl ⟨id,cur,e,cur',hr,rfl,hw,hsz⟩)
  ·exact .inl ((hother k hk).trans ho))
 size:=Nat.le_trans h.size hbel.size
 blk i:=by
  rw [aG]
  split
  ·rename_i hi;obtain⟨rfl,_⟩:=hi;exact hb
  ·rename_i hi
   have hne:i≠id∨¬id<H.length:=by
    by_cases hx:i=id
    ·exact .inr fun hl=>hi ⟨hx,hl⟩
    ·exact .inl hx
   have hne':i≠id:=hne.resolve_right (fun hl=>hl (h.own id g hr).2.2.2)
   exact ig.keep (h.ext_upd id g b e cur cur' hr hg hsz hw hother hshape) (fun _=>rfl) (fun _=>rfl)
    (fun k hk=>hother k fun hkg=>hne' (h.inj i id g (hkg▸hk) hr)) (h.blk i)
 inj:=h.inj
 own i k hi:=by
  obtain⟨h1,h2,h3,h4⟩:=h.own i k hi
  exact⟨h1,Nat.lt_of_lt_of_le h2 hbel.size,h3,by rw [aM];exact h4⟩
 imm k hk:=Nat.lt_of_lt_of_le (h.imm k hk) hbel.size
 sub:=h.sub
 glob k x hx:=(h.glob k x hx).ext (h.ext_upd id g b e cur cur' hr hg hsz hw hother hshape)

theorem St.ext_updO {w':World} (h:St G base w0 c H w) (id g:Nat) (b:Blk) (o o':Obj) (hr:c.ρ id=some g) (hg:w.heap[g]? =some o) (ho:o.isCells=false)
  (hother:∀k,k≠g→w'.heap[k]? =w.heap[k]?) (hshape:aE (aH H id b) id=aE H id):Ext c H w c (aH H id b) w' where
 M g hg:=hg
 N g hg:=hg
 mem k hk:=hother k (fun e=>(h.own id g hr).2.2.1 (e▸hk.elim (fun h=>h) fun hn=>(h.sub k hn).1))
 shp i s hs:=by
  refine⟨?_,rfl⟩
  by_cases hi:i=id
  ·subst hi;rw [hshape];exact hs
  ·unfold aE at*
   rw [aG,if_neg (by simp [hi])]
   exact hs
 siz i s k cu el _ hri hk:=by
  by_cases hkg:k=g
  ·subst hkg
   rw [hg] at hk
   cases hk
   cases ho
  ·exact⟨cu,(hother k hkg).trans hk,rfl⟩
 x:=rfl
 gi:=rfl
 bas _ _ _:=rfl
theorem St.updO {w':World} (h:St G base w0 c H w) (id g:Nat) (b:Blk) (o o':Obj) (hr:c.ρ id=some g) (hg:w.heap[g]? =some o) (ho:o.isCells=false) (hw:w'.heap[g]? =some o')
  (hother:∀k,k≠g→w'.heap[k]? =w.heap[k]?) (hshape:aE (aH H id b) id=aE H id)
  (hbel:Below base w w') (hb:ig c (aH H id b) w' id b):St G base w0 c (aH H id b) w' where
 below:=h.below.trans hbel
 xk:=h.xk.step rfl (fun h=>h) (fun g hg=> .inl hg) (fun i g hi=> .inl ⟨i,hi⟩) (fun k o2 ho2=>by
  by_cases hk:k=g
  ·subst hk
   rw [hg] at ho2
   cases ho2
   exact .inr (.inr ⟨id,hr,ho,(Array.getElem?_eq_some_iff.1 hw).1⟩)
  ·exact .inl ((hother k hk).trans ho2))
 size:=Nat.le_trans h.size hbel.size
 blk i:=by
  rw [aG]
  split
  ·rename_i hi;obtain⟨rfl,_⟩:=hi;exact hb
  ·rename_i hi
   have hne:i≠id∨¬id<H.length:=by
    by_cases hx:i=id
    ·exact .inr fun hl=>hi ⟨hx,hl⟩
    ·exact .inl hx
   have hne':i≠id:=hne.resolve_right (fun hl=>hl (h.own id g hr).2.2.2)
   exact ig.keep (h.ext_updO id g b o o' hr hg ho hother hshape) (fun _=>rfl) (fun _=>rfl)
    (fun k hk=>hother k fun hkg=>hne' (h.inj i id g (hkg▸hk) hr)) (h.blk i)
 inj:=h.inj
 own i k hi:=by
  obtain⟨h1,h2,h3,h4⟩:=h.own i k hi
  exact⟨h1,Nat.lt_of_lt_of_le h2 hbel.size,h3,by rw [aM];exact h4⟩
 imm k hk:=Nat.lt_of_lt_of_le (h.imm k hk) hbel.size
 sub:=h.sub
 glob k x hx:=(h.glob k x hx).ext (h.ext_updO id g b o o' hr hg ho hother hshape)
end

end
section
def zc:Ty→List Value
 |.u8=> [.int .u8 0]| .int k=> [.int k 0]| .bool=> [.bool false]| .str=> [.string ⟨#[]⟩]| .sl _=> [.slice none 0 0]| .nil=> []| .cons t ts=>zc t++zc ts
 |.arr n t=>(List.replicate n (zc t)).flatten
 |.fnT=> [.nilFunc]| .mapT _=> [.map none]

def zv:Ty→Value
 |.cons t ts=> .agg (zc (.cons t ts)).toArray| .nil=> .agg #[]| .arr n t=> .agg (zc (.arr n t)).toArray
 |t=>(zc t).headD undef

def aN (P:Program) (T:TypeId) (t:Ty):Prop:=(P.info? T).map (fun i=>(i.zero.map (·.cells.toList),i.size,decide (i.bytes≤65536)))=some (some (zc t),t.size,true)

def Cm:TypeDesc→Bool
 |.struct _| .array _ _=>true
 |_=>false

def bG (P:Program) (T:TypeId) (t:Ty):Prop:=aN P T t∧match t with
 |.u8=>P.underlying T=some (.int .u8)
 |.int k=>P.underlying T=some (.int k)
 |.bool=>P.underlying T=some .bool
 |.fnT=>∃a r v,P.underlying T=some (.func a r v)
 |.mapT t=>∃k e,P.underlying T=some (.map k e)∧P.underlying k=some (.int .i64)∧aN P e t∧(P.info? e).bind (·.zero)=some (zv t)
 |.str=>P.underlying T=some .string
 |.sl t=>∃e,P.underlying T=some (.slice e)∧aN P e t∧0<t.size
 |.arr n t=>∃e,P.underlying T=some (.array n e)∧aN P e t∧0<t.size∧(P.underlying e).map Cm=some (bh t)
 |.nil=>∃fs,P.underlying T=some (.struct fs)
 |.cons t ts=>∃fs,P.underlying T=some (.struct fs)∧fs.toList.mapM (fun f=>(P.info? f.type).map fun i=>(f.offset,i.size))=some (qR (.cons t ts) 0)∧fs.toList.mapM (fun f=>(P.underlying f.type).map Cm)=some (eB (.cons t ts))

def dm (P:Program) (T:TypeId) (t:Ty):Bool:=
 match t,P.underlying T with
 |.u8,some (.int .u8)=>true
 |.int k,some (.int k')=>decide (k=k')
 |.bool,some .bool=>true
 |.str,some .string=>true
 |_,_=>false
def iT (P:Program):List Field→Nat→Ty→Bool
 |[],_,.nil=>true
 |f::fs,o,.cons t ts=>Nat.beq f.offset o&&f.name != "_" &&dm P f.type t&&iT P fs (o+1) ts
 |_,_,_=>false
def P8:Ty→Bool
 |.u8| .int _| .bool| .str=>true
 |_=>false
def Af:Ty→Bool
 |.nil=>true
 |.cons t ts=>P8 t&&Af ts
 |_=>false
def jC (P:Program) (T:TypeId) (t:Ty):Bool:=
 match t with
 |.cons t ts=>bif Af (.cons t ts) then(match P.underlying T with
  |some (.struct fs)=> !P.stoodInHeld T&& !P.eqGuardType P.depth T&&iT P fs.toList 0 (.cons t ts)
  |_=>false) else true
 |.arr n (.int k)=>(match P.underlying T with
  |some (.array m e)=>Nat.beq m n&&dm P e (.int k)&& !P.eqGuardType P.depth T
  |_=>false)
 |.sl .u8=>(match P.underlying T with
  |some (.slice e)=>dm P e .u8
  |_=>false)
 |_=>true

theorem aN.open {P:Program} {T:TypeId} {t:Ty} (h:aN P T t):∃i z,P.info? T=some i∧i.zero=some z∧z.cells.toList=zc t∧i.size=t.size∧i.bytes≤65536:=by
 unfold aN at h
 cases hi:P.info? T with
 |none=>rw [hi] at h;simp at h
 |some i=>
  rw [hi] at h
  simp only [Option.map_some,Option.some.injEq,Prod.mk.injEq,decide_eq_true_eq] at h
  obtain⟨h1,h2,h3⟩:=h
  cases hz:i.zero with
  |none=>rw [hz] at h1;simp at h1
  |some z=>rw [hz] at h1;exact⟨i,z,rfl,hz,by simpa using h1,h2,h3⟩

def mz (P:Program) (G:List (Nat×V)) (K:FuncId) (con:bI):Prop:=
 (∀args w,(callFunc K args).run P w= .ok (.enter K args) w)∧
 ∀(base:Nat) (w0:W0) (c:Cx) (H:List Blk) (w:World) (args:List V) (vs:List Value),St G base w0 c H w→VRels c H w args vs→
  ∀R,con args H R→Calls P K vs.toArray w fun e w'=>∃x v H' c',e= .returned v∧R x H'∧VRel c' H' w' x v∧St G base w0 c' H' w'∧Ext c H w c' H' w'

def Cx.of (U:Nat→Prop) (x:Xt):Cx:=⟨U,fun _=>False,fun _=>none,fun _=>0,x,none⟩

def xx (P:Program) (l:Nat) (J:Option Nat→(Nat→Prop)→World→Prop) (L:(Nat×(Nat→List V))):Prop:=
 ∀ (k:Nat) (X:Nat→Prop) (W:World) (U:Nat→Prop) (vs:List Value),J (some k) X W→k<L.1→(∀g,U g→¬X g∧g<W.heap.size)→(∀xt,VRels (Cx.of U xt) [] W (L.2 k) vs)→
  ∃fn tmps as body,(Instr.yield l vs.toArray).run P W= .ok (.round l fn tmps as body) W∧
   RoundIn Fence.wide 0 P l fn tmps as body W fun e W'=>∃x:Bool,e= .returned (.bool x)∧W.heap.size≤W'.heap.size∧(∀g,g<W.heap.size→¬X g→W'.heap[g]? =W.heap[g]?)∧
    J (if x then some (k+1) else none) (fun g=>X g∨(W.heap.size≤g∧g<W'.heap.size)) W'

def ri (P:Program) (G:List (Nat×V)) (K:FuncId) (s:gU):Prop:=
 (∀args w,(callFunc K args).run P w= .ok (.enter K args) w)∧
 ∀(M:Nat→Prop) (w:World) (ds:List V) (us:List Value) (p:Prop) (L:(Nat×(Nat→List V))),s.2 ds=some (p,L)→p→(∀g,M g→g<w.heap.size)→
  (∀g x,lk G g=some x→∀xt,VRel (Cx.of M xt) [] w x (.pointer (some ⟨g,0,none⟩)))→(∀xt,VRels (Cx.of M xt) [] w ds us)→
  ∀(l:Nat) (J:Option Nat→(Nat→Prop)→World→Prop),(∀k X W W',J k X W→Below W.heap.size W W'→J k X W')→xx P l J L→
   J (some 0) (fun g=>g<w.heap.size∧¬M g) w→
   CallsIn Fence.wide 0 P K (#[.func (.yield l) #[] #[]]++us.toArray) w fun e w'=>(∃v,e= .returned v)∧∃X,J (some L.1) X w'∨J none X w'

structure EnvOk (P:Program) (E:Env):Prop where
 con:∀K c,lk E.con K=some c→mz P E.glob K c
 seq:∀K s,lk E.seq K=some s→ri P E.glob K s
 ty:∀T t,lk E.ty T=some t→bG P T t
 eq:∀T t,lk E.ty T=some t→jC P T t=true

section
variable {c:Cx} {H:List Blk} {w:World}

theorem yd (k:IntKind) (n:Int) (h:Qf k n=true):k.min≤n∧n≤k.max:=by
 cases n with
 |ofNat m=>
  have h':m≤Te k:=Nat.le_of_ble_eq_true h
  constructor
  ·cases k<;>simp [IntKind.min,IntKind.signed,IntKind.bits]<;>omega
  ·cases k<;>simp [IntKind.max,IntKind.signed,IntKind.bits,Te] at* <;>omega
 |negSucc m=>
  have h':m<Td k:=by simpa [Qf,Nat.blt_eq] using h
  constructor
  ·cases k<;>simp [IntKind.min,IntKind.signed,IntKind.bits,Td] at* <;>omega
  ·cases k<;>simp [IntKind.max,IntKind.signed,IntKind.bits]<;>omega

theorem J1 (v:Value):VRel c H w (V6 v) v:=by
 unfold V6
 split
 ·rename_i n
  cases hr:Qf .u8 n with
  |false=>exact .undef _
  | true=>
   have h:=yd .u8 n hr
   have e:n=((UInt8.ofNat n.toNat).toNat:Int):=by
    simp [IntKind.min,IntKind.max,IntKind.signed,IntKind.bits] at h
    simp;omega
   simp only [cond_true]
   conv=>rhs;rw [e]
   exact .u8 _
 ·rename_i k n _
  cases hr:Qf k n with
  |false=>exact .undef _
  |true=>exact .int k n (yd k n hr).1 (yd k n hr).2
 ·exact .b _ _ (Iff.rfl)
 ·rename_i s
  cases hs:Nat.ble s.data.toList.length 1000000 with
  |false=>exact .undef _
  |true=>
   have h':s.data.toList.length≤1000000:=Nat.le_of_ble_eq_true hs
   simp only [cond_true]
   exact VRel.str (c:=c) (H:=H) (w:=w) s.data.toList (by unfold maxLen;omega)
 ·exact .nils
 ·exact .nilfn
 ·exact .undef _

theorem B0:∀l:List Value,VRels c H w (l.map V6) l
 |[]=> .nil
 |v::l=> .cons _ _ _ _ (J1 v) (B0 l)

theorem Qy (v:Value):VRel c H w (cv v) v:=by
 unfold cv
 split
 ·rename_i cs
  have:=VRel.agg (c:=c) (H:=H) (w:=w) _ _ (B0 cs.toList)
  simpa using this
 ·exact J1 v

theorem VRel.nb:∀{x:V} {v:Value},VRel c H w x v→VRel c H w x.nb v
 |.bt x,_,h=>by cases h;exact .b _ _ Iff.rfl
 |.undef,_,h=>h| .nope,_,h=>h| .int _ _,_,h=>h| .u8 _,_,h=>h| .b _,_,h=>h| .str _,_,h=>h| .nils,_,h=>h| .sl _ _ _,_,h=>h| .own _ _,_,h=>h
 |.slc _ _ _ _,_,h=>h| .rp _ _ _ _,_,h=>h| .ptr _ _ _ _,_,h=>h| .agg _,_,h=>h| .tup _,_,h=>h| .fn _ _,_,h=>h| .nilfn,_,h=>h| .yld _,_,h=>h| .dat _ _ _,_,h=>h| .rb _,_,h=>h| .mp _ _,_,h=>h

theorem jy {E:Env} {base:Nat} {w0:W0} (hst:St E.glob base w0 c H w) {σ:List V} {a:Act} (hσ:VRels c H w σ a.tmps.toList) (x:Operand):VRel c H w (lr E σ x) (a.eval x):=by
 cases x with
 |tmp t=>simpa [lr,Act.eval,Array.getD_eq_getD_getElem?] using hσ.get t
 |const v=>
  have hcv:=Qy (c:=c) (H:=H) (w:=w) v
  cases v with
  |bool x=>exact .bt x
  |_=>exact hcv
 |global g=>
  simp only [lr,Act.eval]
  cases hg:lk E.glob g with
  |none=>exact .undef _
  |some x=>exact hst.glob g x hg
 |func f=>exact .fn f [] [] .nil
theorem bK {E:Env} {base:Nat} {w0:W0} (hst:St E.glob base w0 c H w) {σ:List V} {a:Act} (hσ:VRels c H w σ a.tmps.toList) (x:Operand):VRel c H w (ev E σ x) (a.eval x):=by
 cases x with
 |tmp t=>simpa [ev,Act.eval,Array.getD_eq_getD_getElem?] using(hσ.get t).nb
 |const v=>exact Qy v
 |global g=>
  simp only [ev,Act.eval]
  cases hg:lk E.glob g with
  |none=>exact .undef _
  |some x=>exact hst.glob g x hg
 |func f=>exact .fn f [] [] .nil
end

def E4 (G:List (Nat×V)) (base:Nat) (w0:W0) (tm:List Value) (K:V→List V→List Blk→Prop) (v:Value) (w':World):Prop:=
 ∃x σ' H' c',K x σ' H'∧VRel c' H' w' x v∧VRels c' H' w' σ' tm∧St G base w0 c' H' w'

def a8 (G:List (Nat×V)) (base:Nat) (w0:W0) (tm:List Value) (K:V→List V→List Blk→Prop) (P:Program) (o:Oper) (a:Act) (w:World):Prop:=
 (∃v w',(execOp a.eval o).run P w= .ok (.value v) w'∧E4 G base w0 tm K v w')∨
 (∃w',(execOp a.eval o).run P w= .ok .skip w'∧E4 G base w0 tm K undef w')∨
 (∃f args w',(execOp a.eval o).run P w= .ok (.enter f args) w'∧Calls P f args w' fun e w''=>∃v,e= .returned v∧E4 G base w0 tm K v w'')

section ops
variable {E:Env} {P:Program} {base:Nat} {w0:W0} {c:Cx} {H:List Blk} {w:World} {σ:List V} {a:Act} {K:V→List V→List Blk→Prop} {o:Oper}

theorem aK (hst:St E.glob base w0 c H w) (hσ:VRels c H w σ a.tmps.toList) {x:V} {v:Value} (hx:VRel c H w x v) (hK:K x σ H) (hr:(execOp a.eval o).run P w= .ok (.value v) w):
  a8 E.glob base w0 a.tmps.toList K P o a w:= .inl ⟨v,w,hr,x,σ,H,c,hK,hx,hσ,hst⟩

theorem Aq (hst:St E.glob base w0 c H w) (hσ:VRels c H w σ a.tmps.toList) (x:Operand) (ho:o.op= .move x∨o.op= .assign x) (h:forceV (lr E σ x) fun v=>K v σ H):
  a8 E.glob base w0 a.tmps.toList K P o a w:=
 aK hst hσ (jy hst hσ x) ((aR _ _).1 h) (by rcases ho with ho|ho<;>simp [execOp,ho])

theorem Nj (hst:St E.glob base w0 c H w) (hσ:VRels c H w σ a.tmps.toList) (x y z:Operand) (ho:o.op= .pick x y z) (h:a7 E σ H (.pick x y z) K):
  a8 E.glob base w0 a.tmps.toList K P o a w:=by
 have hx:=jy hst hσ x
 simp only [a7] at h
 generalize lr E σ x=vx at h hx
 generalize hae:a.eval x=ve at hx
 cases hx<;>try exact h.elim
 case b p b hb=>
  cases b with
  |true=>exact aK hst hσ (jy hst hσ y) ((aR _ _).1 (h.1 (hb.1 rfl))) (by simp [execOp,ho,hae,asBool])
  |false=>exact aK hst hσ (jy hst hσ z) ((aR _ _).1 (h.2 fun hp=>by simpa using hb.2 hp)) (by simp [execOp,ho,hae,asBool])
 case bt b=>
  cases b with
  |true=>exact aK hst hσ (jy hst hσ y) ((aR _ _).1 h) (by simp [execOp,ho,hae,asBool])
  |false=>exact aK hst hσ (jy hst hσ z) ((aR _ _).1 h) (by simp [execOp,ho,hae,asBool])

theorem mQ {k:IntKind} {n:Int} {K:Prop} (h:inRK k n K):K∧k.wrap n=n∧k.min≤n∧n≤k.max:=by
  cases k<;>simp only [inRK] at h<;>first
    |exact h.elim
    | (obtain⟨h1,h2⟩:=h
       refine⟨h2,?_,?_⟩
       · simp [IntKind.wrap,IntKind.bits,IntKind.signed];omega
       · simp [IntKind.min,IntKind.max,IntKind.bits,IntKind.signed];omega)

theorem Ac {k:IntKind} {b:Int} {K:Prop} (h:shRK k b K):K∧0≤b∧b≤k.bits:=by
 cases k<;>simp only [shRK] at h<;>first
  |exact h.elim
  |exact⟨h.2,h.1.1,by simp [IntKind.bits];omega⟩

theorem gp (z:UInt8):BitVec.ofInt 8 (z.toNat:Int)=z.toBitVec:=by
 rw [BitVec.ofInt_natCast];exact BitVec.eq_of_toNat_eq (by simp)
theorem tW (z:BitVec 8):IntKind.u8.wrap (z.toNat:Int)=((UInt8.ofBitVec z).toNat:Int):=by
 rw [IntKind.wrap_u8]
 have h1:=z.isLt
 have h2:(UInt8.ofBitVec z).toNat=z.toNat:=rfl
 omega

theorem A6 (k:IntKind) (x:Int) (h0:0≤x) (h1:x≤k.max):(BitVec.ofInt k.bits x).toNat=x.toNat:=by
 obtain⟨n,rfl⟩:=Int.eq_ofNat_of_zero_le h0
 rw [BitVec.ofInt_natCast,BitVec.toNat_ofNat,Int.toNat_natCast]
 refine Nat.mod_eq_of_lt ?_
 cases k<;>simp [IntKind.max,IntKind.signed,IntKind.bits] at* <;>omega

theorem eS (k:IntKind) (x:Int) (h0:0≤x) (h1:x≤k.max):x.toNat<2^(if k.signed then k.bits-1 else k.bits):=by
 cases k<;>simp [IntKind.max,IntKind.signed,IntKind.bits] at* <;>omega
theorem zo (k:IntKind) (m:Nat) (h:m<2^(if k.signed then k.bits-1 else k.bits)):k.wrap (m:Int)=m∧k.min≤(m:Int)∧(m:Int)≤k.max:=by
 cases k<;>simp [IntKind.max,IntKind.min,IntKind.wrap,IntKind.signed,IntKind.bits] at* <;>omega

theorem lS (op:BinOp) (k:IntKind) (a b:Int) (f:Nat→Nat→Nat) (ha:0≤a) (hb:0≤b) (ha':a≤k.max) (hb':b≤k.max)
  (hop:(op= .and∧f=(· &&&·))∨(op= .or∧f=(· |||·))∨(op= .xor∧f=(· ^^^·))) (w:World) (P:Program):
  (Op.intBits op k a b).run P w= .ok (.int k ((f a.toNat b.toNat:Nat):Int)) w∧k.min≤((f a.toNat b.toNat:Nat):Int)∧((f a.toNat b.toNat:Nat):Int)≤k.max:=by
 have hf:f a.toNat b.toNat<2^(if k.signed then k.bits-1 else k.bits):=by
  have h1:=eS k a ha ha'
  have h2:=eS k b hb hb'
  rcases hop with⟨_,rfl⟩|⟨_,rfl⟩|⟨_,rfl⟩
  ·exact Nat.and_lt_two_pow _ h2
  ·exact Nat.or_lt_two_pow h1 h2
  ·exact Nat.xor_lt_two_pow h1 h2
 obtain⟨g1,g2⟩:=zo k _ hf
 refine⟨?_,g2⟩
 have e1:=A6 k a ha ha'
 have e2:=A6 k b hb hb'
 rcases hop with⟨rfl,rfl⟩|⟨rfl,rfl⟩|⟨rfl,rfl⟩<;>simp only [Op.intBits,Sem.run_pure,BitVec.toNat_and,BitVec.toNat_or,BitVec.toNat_xor,e1,e2]<;>rw [g1]

theorem zb {n:Nat} (x y:BitVec n):(x&&& ~~~y).toNat=x.toNat^^^(x.toNat&&&y.toNat):=by
 apply Nat.eq_of_testBit_eq
 intro i
 rw [Nat.testBit_xor,Nat.testBit_and,BitVec.testBit_toNat,BitVec.testBit_toNat,BitVec.testBit_toNat,BitVec.getLsbD_and,BitVec.getLsbD_not]
 by_cases h:i<n
 ·simp only [h,decide_true,Bool.true_and]
  cases x.getLsbD i<;>cases y.getLsbD i<;>rfl
 ·rw [BitVec.getLsbD_of_ge x i (by omega)];rfl
theorem Ey (k:IntKind) (a b:Int) (ha:0≤a) (hb:0≤b) (ha':a≤k.max) (hb':b≤k.max) (w:World) (P:Program):
  (Op.intBits .andNot k a b).run P w= .ok (.int k ((a.toNat^^^(a.toNat&&&b.toNat):Nat):Int)) w∧k.min≤((a.toNat^^^(a.toNat&&&b.toNat):Nat):Int)∧((a.toNat^^^(a.toNat&&&b.toNat):Nat):Int)≤k.max:=by
 have h1:=eS k a ha ha'
 have h2:=eS k b hb hb'
 obtain⟨g1,g2⟩:=zo k _ (Nat.xor_lt_two_pow h1 (Nat.and_lt_two_pow _ h2))
 refine⟨?_,g2⟩
 have e1:=A6 k a ha ha'
 have e2:=A6 k b hb hb'
 simp only [Op.intBits,Sem.run_pure,zb,e1,e2]
 rw [g1]

theorem Ms (k:IntKind) (z:Int):k.min≤k.wrap z∧k.wrap z≤k.max:=by
 cases k<;>simp [IntKind.min,IntKind.max,IntKind.wrap,IntKind.signed,IntKind.bits]<;>omega
theorem O6 (k:IntKind) (x:Int) (w:World) (P:Program):(Op.intBits .and k x 1).run P w= .ok (.int k (x%2)) w∧k.min≤x%2∧x%2≤k.max:=by
 have h:k.min≤x%2∧x%2≤k.max∧k.wrap (x%2)=x%2:=by
  cases k<;>simp [IntKind.min,IntKind.max,IntKind.wrap,IntKind.signed,IntKind.bits]<;>omega
 refine⟨?_,h.1,h.2.1⟩
 have e:(((BitVec.ofInt k.bits x&&&BitVec.ofInt k.bits 1).toNat:Nat):Int)=x%2:=by
  rw [BitVec.toNat_and,BitVec.toNat_ofInt,BitVec.toNat_ofInt]
  have h1:((1:Int)%((2^k.bits:Nat):Int)).toNat=1:=by cases k<;>simp [IntKind.bits]
  rw [h1,Nat.and_one_is_mod]
  cases k<;>simp only [IntKind.bits]<;>omega
 simp only [Op.intBits,Sem.run_pure]
 rw [e,h.2.2]
theorem K8 {op:BinOp} {kd:IntKind} {x y:Int} (hx:kd.min≤x∧x≤kd.max) (hy:kd.min≤y∧y≤kd.max) {k:V→Prop} (h:abinI op kd x y k) (T:TypeId) (ox oy:Operand):
  ∃r v,k r∧VRel c H w r v∧(do eqGuard op T ox oy (.int kd x) (.int kd y);binOp op T (.int kd x) (.int kd y):Sem Value).run P w= .ok v w:=by
 cases op<;>simp only [abinI] at h<;>try exact h.elim
 ·obtain⟨h1,h2,h3,h4⟩:=mQ h
  exact⟨_,_,h1,.int _ _ h3 h4,by simp [eqGuard,binOp,Op.intArith,h2]⟩
 ·obtain⟨h1,h2,h3,h4⟩:=mQ h
  exact⟨_,_,h1,.int _ _ h3 h4,by simp [eqGuard,binOp,Op.intArith,h2]⟩
 ·obtain⟨h1,h2,h3,h4⟩:=mQ h
  exact⟨_,_,h1,.int _ _ h3 h4,by simp [eqGuard,binOp,Op.intArith,h2]⟩
 ·rcases h with⟨⟨h1,h2⟩,h3⟩|⟨⟨h1,h2⟩,h3⟩|⟨h2,h3⟩
  ·have hq:kd.min≤x/y∧x/y≤kd.max∧kd.wrap (x/y)=x/y:=by
    have g1:0≤x/y:=Int.ediv_nonneg h1 (by omega)
    have g2:x/y≤x:=Int.ediv_le_self _ h1
    generalize x/y=q at*
    cases kd<;>simp [IntKind.min,IntKind.max,IntKind.wrap,IntKind.signed,IntKind.bits] at* <;>omega
   refine⟨_,_,h3,.int _ _ hq.1 hq.2.1,?_⟩
   have hne:¬y=0:=by omega
   simp [eqGuard,binOp,Op.intDiv,hne,Int.tdiv_eq_ediv_of_nonneg h1,hq.2.2]
  ·have e1:x.tdiv y= -((-x)/y):=by
    rw [Go.tdiv_eq_if,if_neg (by omega)]
   have hq:kd.min≤-((-x)/y)∧-((-x)/y)≤kd.max∧kd.wrap (-((-x)/y))= -((-x)/y):=by
    have g1:0≤(-x)/y:=Int.ediv_nonneg (by omega) (by omega)
    have g2:(-x)/y≤(-x):=Int.ediv_le_self _ (by omega)
    generalize (-x)/y=q at*
    cases kd<;>simp [IntKind.min,IntKind.max,IntKind.wrap,IntKind.signed,IntKind.bits] at* <;>omega
   refine⟨_,_,h3,.int _ _ hq.1 hq.2.1,?_⟩
   have hne:¬y=0:=by omega
   simp [eqGuard,binOp,Op.intDiv,hne,e1,hq.2.2]
  ·have hq:kd.min≤x.tdiv y∧x.tdiv y≤kd.max∧kd.wrap (x.tdiv y)=x.tdiv y:=by
    have g:(0≤x∧0≤x.tdiv y∧x.tdiv y≤x)∨(x<0∧x≤x.tdiv y∧x.tdiv y≤0):=by
     rcases Int.lt_or_le x 0 with h|h
     ·have e1:x.tdiv y= -((-x)/y):=by rw [Go.tdiv_eq_if,if_neg (by omega)]
      have g1:0≤(-x)/y:=Int.ediv_nonneg (by omega) (by omega)
      have g2:(-x)/y≤(-x):=Int.ediv_le_self _ (by omega)
      omega
     ·have e1:=Int.tdiv_eq_ediv_of_nonneg (b:=y) h
      have g1:0≤x/y:=Int.ediv_nonneg h (by omega)
      have g2:x/y≤x:=Int.ediv_le_self _ h
      omega
    generalize x.tdiv y=q at*
    cases kd<;>simp [IntKind.min,IntKind.max,IntKind.wrap,IntKind.signed,IntKind.bits] at* <;>omega
   refine⟨_,_,h3,.int _ _ hq.1 hq.2.1,?_⟩
   have hne:¬y=0:=by omega
   simp [eqGuard,binOp,Op.intDiv,hne,hq.2.2]
 ·rcases h with⟨⟨h1,h2⟩,h3⟩|⟨⟨h1,h2⟩,h3⟩|⟨h2,h3⟩
  ·have g1:0≤x%y:=Int.emod_nonneg _ (by omega)
   have g2:x%y<y:=Int.emod_lt_of_pos _ h2
   have g3:kd.min≤0:=by cases kd<;>simp [IntKind.min,IntKind.signed,IntKind.bits]
   refine⟨_,_,h3,.int _ _ (by omega) (by omega),?_⟩
   have hne:¬y=0:=by omega
   simp [eqGuard,binOp,Op.intDiv,hne,Int.tmod_eq_emod_of_nonneg h1]
  ·have e1:x.tmod y= -((-x)%y):=by
    rw [Go.tmod_eq_if,if_neg (by omega)]
   have g1:0≤(-x)%y:=Int.emod_nonneg _ (by omega)
   have g2:(-x)%y<y:=Int.emod_lt_of_pos _ h2
   have g3:(-x)%y≤-x:=by
    have:=Int.emod_add_mul_ediv (-x) y
    have g4:0≤y*((-x)/y):=Int.mul_nonneg (by omega) (Int.ediv_nonneg (by omega) (by omega))
    omega
   have g5:0≤kd.max:=by cases kd<;>simp [IntKind.max,IntKind.signed,IntKind.bits]
   refine⟨_,_,h3,.int _ _ (by omega) (by omega),?_⟩
   have hne:¬y=0:=by omega
   simp [eqGuard,binOp,Op.intDiv,hne,e1]
  ·have g:kd.min≤x.tmod y∧x.tmod y≤kd.max:=by
    have g5:0≤kd.max:=by cases kd<;>simp [IntKind.max,IntKind.signed,IntKind.bits]
    have g6:kd.min≤0:=by cases kd<;>simp [IntKind.min,IntKind.signed,IntKind.bits]
    rcases Int.lt_or_le x 0 with h|h
    ·have e1:x.tmod y= -((-x)%y):=by rw [Go.tmod_eq_if,if_neg (by omega)]
     have g1:0≤(-x)%y:=Int.emod_nonneg _ (by omega)
     have g3:(-x)%y≤-x:=by
      have:=Int.emod_add_mul_ediv (-x) y
      have g4:0≤y*((-x)/y):=Int.mul_nonneg (by omega) (Int.ediv_nonneg (by omega) (by omega))
      omega
     omega
    ·have e1:=Int.tmod_eq_emod_of_nonneg (b:=y) h
     have g1:0≤x%y:=Int.emod_nonneg _ (by omega)
     have g2:x%y<y:=Int.emod_lt_of_pos _ h2
     omega
   refine⟨_,_,h3,.int _ _ g.1 g.2,?_⟩
   have hne:¬y=0:=by omega
   simp [eqGuard,binOp,Op.intDiv,hne]
 ·rcases h with h|⟨rfl,h⟩
  ·obtain⟨h1,h2,h3⟩:=lS .and kd x y _ h.1.1 h.1.2 hx.2 hy.2 (.inl ⟨rfl,rfl⟩) w P
   exact⟨_,_,h.2,.int _ _ h2 h3,by simpa [eqGuard,binOp] using h1⟩
  ·obtain⟨h1,h2,h3⟩:=O6 kd x w P
   exact⟨_,_,h,.int _ _ h2 h3,by simpa [eqGuard,binOp] using h1⟩
 ·rcases h with h|h
  ·obtain⟨h1,h2,h3⟩:=lS .or kd x y _ h.1.1 h.1.2 hx.2 hy.2 (.inr (.inl ⟨rfl,rfl⟩)) w P
   exact⟨_,_,h.2,.int _ _ h2 h3,by simpa [eqGuard,binOp] using h1⟩
  ·obtain⟨h1,h2⟩:=Ms kd (((BitVec.ofInt kd.bits x|||BitVec.ofInt kd.bits y).toNat:Nat):Int)
   exact⟨_,_,h,.int _ _ h1 h2,by simp [eqGuard,binOp,Op.intBits,iOr]⟩
 ·obtain⟨h1,h2,h3⟩:=lS .xor kd x y _ h.1.1 h.1.2 hx.2 hy.2 (.inr (.inr ⟨rfl,rfl⟩)) w P
  exact⟨_,_,h.2,.int _ _ h2 h3,by simpa [eqGuard,binOp] using h1⟩
 ·obtain⟨h1,h2,h3⟩:=Ey kd x y h.1.1 h.1.2 hx.2 hy.2 w P
  exact⟨_,_,h.2,.int _ _ h2 h3,by simpa [eqGuard,binOp] using h1⟩
 ·exact⟨_,_,h,.b _ (x==y) (by simp),by simp [eqGuard,binOp,Op.intCmp]⟩
 ·exact⟨_,_,h,.b _ (x !=y) (by simp),by simp [eqGuard,binOp,Op.intCmp]⟩
 ·exact⟨_,_,h,.b _ (decide (x<y)) (by simp),by simp [eqGuard,binOp,Op.intCmp]⟩
 ·exact⟨_,_,h,.b _ (decide (x≤y)) (by simp),by simp [eqGuard,binOp,Op.intCmp]⟩
 ·exact⟨_,_,h,.b _ (decide (x>y)) (by simp),by simp [eqGuard,binOp,Op.intCmp]⟩
 ·exact⟨_,_,h,.b _ (decide (x≥y)) (by simp),by simp [eqGuard,binOp,Op.intCmp]⟩

theorem K9 {op:BinOp} {x y:UInt8} {k:V→Prop} (h:abinB op x y k) (T:TypeId) (ox oy:Operand):
  ∃r v,k r∧VRel c H w r v∧(do eqGuard op T ox oy (.int .u8 (x.toNat:Int)) (.int .u8 (y.toNat:Int));binOp op T (.int .u8 (x.toNat:Int)) (.int .u8 (y.toNat:Int)):Sem Value).run P w= .ok v w:=by
 have hx:=x.toNat_lt
 have hy:=y.toNat_lt
 cases op<;>simp only [abinB] at h<;>try exact h.elim
 ·refine⟨_,_,h,.u8 _,?_⟩
  have:IntKind.u8.wrap ((x.toNat:Int)+(y.toNat:Int))=((x+y).toNat:Int):=by rw [IntKind.wrap_u8,UInt8.toNat_add];omega
  simp [eqGuard,binOp,Op.intArith,this]
 ·refine⟨_,_,h,.u8 _,?_⟩
  have:IntKind.u8.wrap ((x.toNat:Int)-(y.toNat:Int))=((x-y).toNat:Int):=by rw [IntKind.wrap_u8,UInt8.toNat_sub];omega
  simp [eqGuard,binOp,Op.intArith,this]
 ·obtain⟨hb,h⟩:=h
  refine⟨_,_,h,.u8 _,?_⟩
  have hne:¬((y.toNat:Int)=0):=by omega
  have e:IntKind.u8.wrap ((x.toNat:Int).tdiv (y.toNat:Int))=((x/y).toNat:Int):=by
   rw [Int.tdiv_eq_ediv_of_nonneg (by omega),show(x.toNat:Int)/(y.toNat:Int)=((x/y).toNat:Int) by rw [UInt8.toNat_div];rfl,IntKind.wrap_u8]
   have:=(x/y).toNat_lt
   omega
  have e2:(Op.intDiv .quo .u8 (x.toNat:Int) (y.toNat:Int)).run P w= .ok (.int .u8 ((x/y).toNat:Int)) w:=by
   unfold Op.intDiv
   rw [if_neg hne,e];rfl
  simp [eqGuard,binOp,e2]
 ·obtain⟨hb,h⟩:=h
  refine⟨_,_,h,.u8 _,?_⟩
  have hne:¬((y.toNat:Int)=0):=by omega
  have e:(x.toNat:Int).tmod (y.toNat:Int)=((x%y).toNat:Int):=by
   rw [Int.tmod_eq_emod_of_nonneg (by omega),UInt8.toNat_mod];rfl
  have e2:(Op.intDiv .rem .u8 (x.toNat:Int) (y.toNat:Int)).run P w= .ok (.int .u8 ((x%y).toNat:Int)) w:=by
   unfold Op.intDiv
   rw [if_neg hne,e];rfl
  simp [eqGuard,binOp,e2]
 ·refine⟨_,_,h,.u8 _,?_⟩
  have e:IntKind.u8.wrap ((x.toBitVec&&&y.toBitVec).toNat:Int)=((x&&&y).toNat:Int):=tW _
  have e2:(Op.intBits .and .u8 (x.toNat:Int) (y.toNat:Int)).run P w= .ok (.int .u8 ((x&&&y).toNat:Int)) w:=by
   show Result.ok (Value.int .u8 (IntKind.u8.wrap ((BitVec.ofInt 8 (x.toNat:Int)&&&BitVec.ofInt 8 (y.toNat:Int)).toNat:Int))) w=_
   rw [gp,gp,e]
  simp [eqGuard,binOp,e2]
 ·refine⟨_,_,h,.u8 _,?_⟩
  have e:IntKind.u8.wrap ((x.toBitVec|||y.toBitVec).toNat:Int)=((x|||y).toNat:Int):=tW _
  have e2:(Op.intBits .or .u8 (x.toNat:Int) (y.toNat:Int)).run P w= .ok (.int .u8 ((x|||y).toNat:Int)) w:=by
   show Result.ok (Value.int .u8 (IntKind.u8.wrap ((BitVec.ofInt 8 (x.toNat:Int)|||BitVec.ofInt 8 (y.toNat:Int)).toNat:Int))) w=_
   rw [gp,gp,e]
  simp [eqGuard,binOp,e2]
 ·refine⟨_,_,h,.u8 _,?_⟩
  have e:IntKind.u8.wrap ((x.toBitVec^^^y.toBitVec).toNat:Int)=((x^^^y).toNat:Int):=tW _
  have e2:(Op.intBits .xor .u8 (x.toNat:Int) (y.toNat:Int)).run P w= .ok (.int .u8 ((x^^^y).toNat:Int)) w:=by
   show Result.ok (Value.int .u8 (IntKind.u8.wrap ((BitVec.ofInt 8 (x.toNat:Int)^^^BitVec.ofInt 8 (y.toNat:Int)).toNat:Int))) w=_
   rw [gp,gp,e]
  simp [eqGuard,binOp,e2]
 ·have e:((x.toNat:Int)==(y.toNat:Int))=decide (x=y):=by
   rw [Bool.eq_iff_iff];simp [←UInt8.toNat_inj];omega
  exact⟨_,_,h,.b _ ((x.toNat:Int)==(y.toNat:Int)) (by rw [e];simp),by simp [eqGuard,binOp,Op.intCmp]⟩
 ·have e:((x.toNat:Int) !=(y.toNat:Int))=decide (x≠y):=by
   rw [Bool.eq_iff_iff];simp [←UInt8.toNat_inj];omega
  exact⟨_,_,h,.b _ ((x.toNat:Int) !=(y.toNat:Int)) (by rw [e];simp),by simp [eqGuard,binOp,Op.intCmp]⟩
 ·exact⟨_,_,h,.b _ (decide ((x.toNat:Int)<y.toNat)) (by simp),by simp [eqGuard,binOp,Op.intCmp]⟩
 ·exact⟨_,_,h,.b _ (decide ((x.toNat:Int)≤y.toNat)) (by simp),by simp [eqGuard,binOp,Op.intCmp]⟩
 ·exact⟨_,_,h,.b _ (decide ((x.toNat:Int)>y.toNat)) (by simp),by simp [eqGuard,binOp,Op.intCmp]⟩
 ·exact⟨_,_,h,.b _ (decide ((x.toNat:Int)≥y.toNat)) (by simp),by simp [eqGuard,binOp,Op.intCmp]⟩

theorem K7 {op:BinOp} {x y:List UInt8} {k:V→Prop} (h:abinS op x y k) (T:TypeId) (ox oy:Operand):
  ∃r v,k r∧VRel c H w r v∧(do eqGuard op T ox oy (.string ⟨x.toArray⟩) (.string ⟨y.toArray⟩);binOp op T (.string ⟨x.toArray⟩) (.string ⟨y.toArray⟩):Sem Value).run P w= .ok v w:=by
 cases op<;>simp only [abinS] at h<;>try exact h.elim
 ·refine⟨_,_,h.2,.str _ (by rw [List.length_append];unfold maxLen;omega),?_⟩
  have:=run_string_add_sum (P:=P) w ⟨x.toArray⟩ ⟨y.toArray⟩ (by simp [ByteArray.size];omega)
  rw [ByteArray.mk_append_mk] at this
  simp [eqGuard,binOp,this]
 ·exact⟨_,_,h,.b _ (x==y) (by simp),by simp [eqGuard,binOp_string_eql]⟩
 ·exact⟨_,_,h,.b _ (x !=y) (by simp),by simp [eqGuard,binOp_string_neq,bne]⟩

def P3 (P:Program) (T:TypeId):V→Prop
 |.b _=>P.underlying T=some .bool
 |.nils| .sl _ _ _| .own _ _=>∃e,P.underlying T=some (.slice e)
 |.fn _ _=>False
 |_=>True

theorem Gc {fr:Bool} {t:Ty} {xs:List t.D} {a:Option Addr} {n cap:Nat} (h:VRel c H w (.sl fr t xs) (.slice a n cap)) (hn:a=none):xs= []:=by
 cases h with
 | sl _ _ _ _ h=>
  obtain⟨a',cap',h1,_,_,h4⟩:=h
  simp only [List.cons.injEq,Value.slice.injEq,and_true] at h1
  obtain⟨rfl,rfl,rfl⟩:=h1
  by_cases hx:xs= []
  ·exact hx
  ·obtain⟨g,o,h5,_⟩:=h4 hx
   rw [hn] at h5;simp at h5

theorem jb {T:TypeId} {e:TypeId} (hT:P.underlying T=some (.slice e)) (a:Option Addr) (n cap:Nat) (ox oy:Operand):
  (do eqGuard .eql T ox oy (.slice a n cap) (.slice none 0 0);binOp .eql T (.slice a n cap) (.slice none 0 0):Sem Value).run P w= .ok (.bool a.isNone) w∧
  (do eqGuard .neq T ox oy (.slice a n cap) (.slice none 0 0);binOp .neq T (.slice a n cap) (.slice none 0 0):Sem Value).run P w= .ok (.bool (!a.isNone)) w:=by
 have h:∀d:Nat,(Op.equalIn (d+1) T (.slice a n cap) (.slice none 0 0)).run P w= .ok a.isNone w:=fun d=>by
  cases a<;>simp [Op.equalIn,run_underlying hT]
 constructor<;>simp [eqGuard,binOp,Op.equal,Op.maxDepth,h 9999]

theorem Pt {op:BinOp} {x y:V} {vx vy:Value} {base:Nat} {w0:W0} {G:List (Nat×V)} (hst:St G base w0 c H w) (hx:VRel c H w x vx) (hy:VRel c H w y vy) {k:V→Prop} (h:abin op H x y k) (T:TypeId) (hT:P3 P T x) (ox oy:Operand):
  ∃r v,k r∧VRel c H w r v∧(do eqGuard op T ox oy vx vy;binOp op T vx vy:Sem Value).run P w= .ok v w:=by
 unfold abin at h
 split at h
 ·rename_i kd x kd' y
  cases hx with|int _ _ h1 h2=>cases hy with|int _ _ h3 h4=>
  split at h
  ·obtain⟨g1,g2,g3⟩:=Ac h
   obtain⟨g4,g5,g6⟩:=mQ g1
   refine⟨_,_,g4,.int _ _ g6.1 g6.2,?_⟩
   have hm:min y.toNat kd.bits=y.toNat:=by omega
   have hneg:¬y<0:=by omega
   simp [eqGuard,binOp,Op.shift,hneg,hm,g5]
  ·obtain⟨g1,g2,g3⟩:=Ac h
   have hm:min y.toNat kd.bits=y.toNat:=by omega
   have hneg:¬y<0:=by omega
   have hp:(0:Int)<2^y.toNat:=Int.pow_pos (by omega)
   have hq:kd.min≤x/2^y.toNat∧x/2^y.toNat≤kd.max:=by
    have f1:kd.min≤0:=by cases kd<;>simp [IntKind.min,IntKind.signed,IntKind.bits]
    have f2:0≤kd.max:=by cases kd<;>simp [IntKind.max,IntKind.signed,IntKind.bits]
    by_cases hx0:0≤x
    ·have e1:0≤x/2^y.toNat:=Int.ediv_nonneg hx0 (by omega)
     have e2:x/2^y.toNat≤x:=Int.ediv_le_self _ hx0
     omega
    ·have e1:x/2^y.toNat<0:=Int.ediv_neg_of_neg_of_pos (by omega) hp
     have e2:x≤x/2^y.toNat:=by
      rw [Int.le_ediv_iff_mul_le hp]
      have:x*2^y.toNat≤x*1:=Int.mul_le_mul_of_nonpos_left (by omega) (by omega)
      omega
     omega
   refine⟨_,_,g1,.int _ _ hq.1 hq.2,?_⟩
   have hf:x.fdiv (2^y.toNat)=x/2^y.toNat:=Int.fdiv_eq_ediv_of_nonneg _ (by omega)
   simp [eqGuard,binOp,Op.shift,hneg,hm,hf]
  ·rename_i hop1 hop2
   cases hk:decide (kd=kd') with
   |false=>rw [hk] at h;exact h.elim
   |true=>
    rw [hk] at h
    have:=of_decide_eq_true hk
    subst this
    exact K8 ⟨h1,h2⟩ ⟨h3,h4⟩ h T ox oy
 ·cases hx;cases hy
  exact K9 h T ox oy
 ·rename_i x kd y
  cases hx;cases hy with|int _ _ h3 h4=>
  split at h
  ·have hlt:=x.toNat_lt
   obtain⟨⟨g1,g2⟩,g3⟩:=h
   have hm:min y.toNat 8=y.toNat:=by omega
   have hneg:¬y<0:=by omega
   have hq:x.toNat/2^y.toNat≤x.toNat:=Nat.div_le_self _ _
   have e1:((UInt8.ofNat (x.toNat/2^y.toNat)).toNat:Int)=((x.toNat/2^y.toNat:Nat):Int):=by
    rw [UInt8.toNat_ofNat',Nat.mod_eq_of_lt (by omega)]
   have hf:(x.toNat:Int).fdiv (2^y.toNat)=((x.toNat/2^y.toNat:Nat):Int):=by
    have hp:(0:Int)<2^y.toNat:=Int.pow_pos (by omega)
    rw [Int.fdiv_eq_ediv_of_nonneg _ (by omega)];simp
   refine⟨_,_,g3,.u8 _,?_⟩
   rw [e1,←hf]
   simp [eqGuard,binOp,Op.shift,hneg,IntKind.bits,hm]
  ·exact h.elim
 ·cases hx;cases hy
  exact K7 h T ox oy
 ·rename_i p q
  cases hx with|b _ bx hbx=>cases hy with|b _ by_ hby=>
  split at h<;>try exact h.elim
  ·refine⟨_,_,h,.b _ (bx==by_) ?_,?_⟩
   ·rw [←hbx,←hby];cases bx<;>cases by_<;>simp
   ·simp [eqGuard,run_eql_bool w T bx by_ hT]
  ·refine⟨_,_,h,.b _ (!(bx==by_)) ?_,?_⟩
   ·rw [←hbx,←hby];cases bx<;>cases by_<;>simp
   ·simp [eqGuard,run_neq_bool w T bx by_ hT]
 ·cases hx;cases hy
  obtain⟨e,he⟩:=hT
  have:=jb (w:=w) (P:=P) he none 0 0 ox oy
  split at h<;>try exact h.elim
  ·exact⟨_,_,h,.b _ true (by simp),this.1⟩
  ·exact⟨_,_,h,.b _ false (by simp),this.2⟩
 ·rename_i fr t xs
  cases hy
  obtain⟨e,he⟩:=hT
  have hx0:=hx
  cases hx with|sl _ _ _ _ hd=>
  obtain⟨a,cap,h1,_⟩:=hd
  simp only [List.cons.injEq,and_true] at h1
  subst h1
  have:=jb (w:=w) (P:=P) he a xs.length cap ox oy
  have hp:a.isNone=true→xs= []:=fun hn=>Gc hx0 (by simpa using hn)
  split at h<;>try exact h.elim
  ·exact⟨_,_,h _ hp,.b _ a.isNone (by simp),this.1⟩
  ·exact⟨_,_,h _ hp,.b _ (!a.isNone) (by cases a<;>simp),this.2⟩
 ·rename_i t id
  cases hy
  obtain⟨e,he⟩:=hT
  cases hx with|own _ _ n a cap hs hn hc ho=>
  have:=jb (w:=w) (P:=P) he a n cap ox oy
  unfold aE at hs
  split at h<;>try exact h.elim
  all_goals
   rename_i fr t' xs hb
   rw [hb] at hs
   simp only [Option.some.injEq,Prod.mk.injEq] at hs
   have hp:a.isNone=true→xs= []:=fun hnn=>by
    rcases ho with h0|⟨g,el,cur,_,hg,_⟩
    ·exact List.eq_nil_of_length_eq_zero (by omega)
    ·rw [hg] at hnn;simp at hnn
  ·exact⟨_,_,h _ hp,.b _ a.isNone (by simp),this.1⟩
  ·exact⟨_,_,h _ hp,.b _ (!a.isNone) (by cases a<;>simp),this.2⟩
 ·exact hT.elim
 ·exact h.elim
end ops
end
section
theorem bH (id:Nat):∀(H:List Blk) (j:Nat),aD (bD id H) j=ci id (aD H j)
 |[],j=>by cases j<;>rfl
 |b::H,0=>rfl
 |b::H,j+1=>bH id H j
theorem an (id:Nat):∀H:List Blk,(bD id H).length=H.length
 |[]=>rfl
 |b::H=>by simp [bD,an id H]
theorem bo (id:Nat):∀l:List V,(ak id l).length=l.length
 |[]=>rfl
 |b::l=>by simp [ak,bo id l]
theorem dW (id:Nat):∀(l:List V) (j:Nat),aL (ak id l) j=bif (aL l j).mentions id then .undef else aL l j
 |[],j=>by cases j<;>rfl
 |b::l,0=>rfl
 |b::l,j+1=>dW id l j
theorem vq (id:Nat) (H:List Blk) (j:Nat):aE (bD id H) j=aE H j:=by
 unfold aE
 rw [bH]
 cases aD H j<;>first|(simp [ci,bo];done)|skip
 rename_i mid n s l
 cases mid<;>rfl

def bC (H:List Blk) (id:Nat):List Blk:=aH (bD id H) id .dead
theorem b6 {H:List Blk} {id j:Nat} (h:j≠id):aE (bC H id) j=aE H j:=by
 have:aE (bC H id) j=aE (bD id H) j:=by
  unfold aE bC;rw [aG,if_neg (by simp [h])]
 rw [this,vq]
theorem zJ {H:List Blk} {id j:Nat} (h:j≠id):aD (bC H id) j=ci id (aD H j):=by
 unfold bC;rw [aG,if_neg (by simp [h]),bH]
theorem aX {H:List Blk} {id:Nat}:aD (bC H id) id= .dead:=by
 unfold bC
 rw [aG]
 split
 ·rfl
 ·rename_i h
  have:H.length≤id:=by rw [an] at h;omega
  rw [bH,bB H id this];rfl

section
variable {c:Cx} {H H':List Blk} {w:World} {id:Nat}
theorem bz {i j:Nat} (h:Nat.beq i j=false):i≠j:=fun e=>by subst e;simp at h
mutual
theorem VRel.other (hs:∀j,j≠id→aE H' j=aE H j):∀{x:V} {v:Value},VRel c H w x v→x.mentions id=false→VRel c H' w x v
 |_,_,.undef v,_=> .undef v
 |_,_,.int k n h1 h2,_=> .int k n h1 h2
 |_,_,.u8 x,_=> .u8 x
 |_,_,.b p x h,_=> .b p x h
 |_,_,.bt x,_=> .bt x
 |_,_,.nope,_=> .nope
 |_,_,.str s h,_=> .str s h
 |_,_,.nils,_=> .nils
 |_,_,.sl fr t xs v h,_=> .sl fr t xs v h
 |_,_,.own t i n a cap h1 hn hc ho,hm=> .own t i n a cap ((hs i (bz hm)).trans h1) hn hc ho
 |_,_,.slc t i off n m a cap h1 h2 hn hc ho,hm=> .slc t i off n m a cap ((hs i (bz hm)).trans h1) h2 hn hc ho
 |_,_,.rp fr t x o g p es hM hd hc,_=> .rp fr t x o g p es hM hd hc
 |_,_,.ptr i z j o g m h1 hr hi ho,hm=> .ptr i z j o g m ((hs i (bz hm)).trans h1) hr hi ho
 |_,_,.agg cs vs h,hm=> .agg cs vs (VRels.other hs h hm)
 |_,_,.tup cs vs h,hm=> .tup cs vs (VRels.other hs h hm)
 |_,_,.fn f cs vs h,hm=> .fn f cs vs (VRels.other hs h hm)
 |_,_,.nilfn,_=> .nilfn
 |_,_,.yld k h,_=> .yld k h
 |_,_,.dat fr t x es h,_=> .dat fr t x es h
 |_,_,.rb x v g p hM hc h,hm=> .rb x v g p hM hc (VRel.other hs h hm)
 |_,_,.mp t i g h1 hr,hm=> .mp t i g ((hs i (bz hm)).trans h1) hr
theorem VRels.other (hs:∀j,j≠id→aE H' j=aE H j):∀{xs:List V} {vs:List Value},VRels c H w xs vs→V.mentionsL id xs=false→VRels c H' w xs vs
 |_,_,.nil,_=> .nil
 |_,_,.cons x v xs vs h hx,hm=>by
  simp only [V.mentionsL,Bool.or_eq_false_iff] at hm
  exact .cons x v xs vs (VRel.other hs h hm.1) (VRels.other hs hx hm.2)
end

theorem VRel.killed (hs:∀j,j≠id→aE H' j=aE H j) {x:V} {v:Value} (h:VRel c H w x v):VRel c H' w (bif x.mentions id then .undef else x) v:=by
 cases hm:x.mentions id with
 |true=>exact .undef _
 |false=>exact VRel.other hs h hm
theorem VRels.killed (hs:∀j,j≠id→aE H' j=aE H j):∀{xs:List V} {vs:List Value},VRels c H w xs vs→VRels c H' w (ak id xs) vs
 |_,_,.nil=> .nil
 |_,_,.cons x v xs vs h hx=> .cons _ v _ vs (VRel.killed hs h) (VRels.killed hs hx)
end

section
variable {G:List (Nat×V)} {base:Nat} {w0:W0} {c:Cx} {H:List Blk} {w:World}

def bV (G:List (Nat×V)):Prop:=∀g x id,lk G g=some x→x.mentions id=false

theorem St.kill (hG:bV G) (h:St G base w0 c H w) (id:Nat):St G base w0 c (bC H id) w where
 below:=h.below
 xk:=h.xk
 size:=h.size
 blk j:=by
  by_cases hj:j=id
  ·subst hj;rw [aX];trivial
  ·rw [zJ hj]
   have hb:=h.blk j
   generalize aD H j=b at hb
   cases b with
   |dead=>trivial
   |row fr t xs=>exact hb
   |imap fr t es=>exact hb
   | mit mid n s l=>
    cases mid with
    |none=>trivial
    | some mid=>
     show ig c (bC H id) w j (.mit (bif Nat.beq mid id then none else some mid) n s l)
     cases hq:Nat.beq mid id with
     |true=>trivial
     |false=>
      obtain⟨g,gm,z,h1,h2,h3,h4,h5,h6⟩:=hb
      exact⟨g,gm,z,h1,h2,h3,(b6 (bz hq)).trans h4,h5,h6⟩
   | cells cs=>
    rcases hb with⟨g,e,cur,h1,h2,h3,h4⟩|⟨h0,h1,h2⟩
    ·refine .inl ⟨g,e,cur,h1,h2,by rw [bo];exact h3,fun j hj=> ?_⟩
     rw [bo] at hj
     obtain⟨v,h5,h6,h7⟩:=h4 j hj
     rw [dW]
     exact⟨v,h5,h6,h7.killed fun j hj=>b6 hj⟩
    ·exact .inr ⟨h0,h1,h2.killed fun j hj=>b6 hj⟩
 inj:=h.inj
 own i g hi:=by
  obtain⟨h1,h2,h3,h4⟩:=h.own i g hi
  exact⟨h1,h2,h3,by unfold bC;rw [aM,an];exact h4⟩
 imm:=h.imm
 sub:=h.sub
 glob g x hx:=VRel.other (fun j hj=>b6 hj) (h.glob g x hx) (hG g x id hx)

def Cx.at (c:Cx) (id g:Nat) (q:Nat:=0):Cx:={c with ρ:=fun i=>if i=id then some g else c.ρ i,β:=fun i=>if i=id then q else c.β i}
theorem bp {H:List Blk} {id j:Nat} {b:Blk} (h:j≠id):aE (aH H id b) j=aE H j:=by
 unfold aE;rw [aG,if_neg (by simp [h])]

theorem St.ext_revive {w':World} {q:Nat} (h:St G base w0 c H w) (id g:Nat) (b:Blk) (hd:aD H id= .dead)
  (hother:∀k,k<w.heap.size→(c.ρ id=some k→g≠k)→w'.heap[k]? =w.heap[k]?) (hg:c.ρ id=some g∨w.heap.size≤g):
  Ext c H w (c.at id g q) (aH H id b) w' where
 M k hk:=hk
 N k hk:=hk
 mem k hk:=by
  have hm:c.M k:=hk.elim (fun h=>h) fun hn=>(h.sub k hn).1
  exact hother k (h.imm k hm) (fun hr e=>(h.own id k hr).2.2.1 hm)
 shp i s hs:=by
  have hi:i≠id:=fun e=>by subst e;simp [aE,hd] at hs
  exact⟨by rw [bp hi];exact hs,by simp [Cx.at,hi]⟩
 siz i s k cu el hs hr hk:=by
  have hi:i≠id:=fun e=>by subst e;simp [aE,hd] at hs
  exact⟨cu,(hother k (h.own i k hr).2.1 (fun hr' _=>hi (h.inj i id k hr hr'))).trans hk,rfl⟩
 x:=rfl
 gi:=rfl
 bas i s hs:=by
  have hi:i≠id:=fun e=>by subst e;simp [aE,hd] at hs
  simp [Cx.at,hi]

theorem St.revive {w':World} {q:Nat} (h:St G base w0 c H w) (id g:Nat) (b:Blk) (hid:id<H.length) (hd:aD H id= .dead)
  (hother:∀k,k<w.heap.size→(c.ρ id=some k→g≠k)→w'.heap[k]? =w.heap[k]?) (hg:c.ρ id=some g∨w.heap.size≤g) (hg':g<w'.heap.size)
  (hz:∀o:Obj,c.ρ id=some g→w.heap[g]? =some o→∃cur e cur',o= .cells cur e (0,0)∧w'.heap[g]? =some (.cells cur' e (0,0))∧cur'.size=cur.size)
  (hbel:Below base w w') (hb:ig (c.at id g q) (aH H id b) w' id b):St G base w0 (c.at id g q) (aH H id b) w' where
 below:=h.below.trans hbel
 xk:=h.xk.step rfl (fun h=>h) (fun g hg=> .inl hg) (fun i k hi=>by
  simp only [Cx.at] at hi
  split at hi
  ·cases hi
   exact hg.imp (fun h=>⟨_,h⟩) (fun h=>h)
  ·exact .inl ⟨i,hi⟩) (fun k o ho=>by
  have hlt:=(Array.getElem?_eq_some_iff.1 ho).1
  by_cases hk:c.ρ id=some k∧g=k
  ·obtain⟨h1,rfl⟩:=hk
   obtain⟨cur,e,cur',h2,h3,h4⟩:=hz o h1 ho
   exact .inr (.inl ⟨id,cur,e,cur',h1,h2,h3,h4⟩)
  ·exact .inl ((hother k hlt fun h1 h2=>hk ⟨h1,h2⟩).trans ho))
 size:=Nat.le_trans h.size hbel.size
 blk i:=by
  rw [aG]
  split
  ·rename_i hi;obtain⟨rfl,_⟩:=hi;exact hb
  ·rename_i hi
   have hne:i≠id:=fun e=>hi ⟨e,hid⟩
   exact ig.keep (h.ext_revive id g b hd hother hg) (fun _=>by simp [Cx.at,hne]) (fun _=>by simp [Cx.at,hne])
    (fun k hk=>hother k (h.own i k hk).2.1 fun hr _=>hne (h.inj i id k hk hr)) (h.blk i)
 inj i j k hi hj:=by
  have key:∀i,i≠id→c.ρ i=some k→g=k→False:=fun i hne hr e=>by
   subst e
   rcases hg with hg|hg
   ·exact hne (h.inj i id g hr hg)
   ·have:=(h.own i g hr).2.1;omega
  simp only [Cx.at] at hi hj
  split at hi<;>split at hj
  ·omega
  ·rename_i hni;exact(key j hni hj (by simpa using hi)).elim
  ·rename_i hni _;exact(key i hni hi (by simpa using hj)).elim
  ·exact h.inj i j k hi hj
 own i k hi:=by
  simp only [Cx.at] at hi
  split at hi
  ·rename_i hid'
   simp only [Option.some.injEq] at hi
   subst hi
   refine⟨?_,hg',?_,by rw [aM,hid'];exact hid⟩
   ·rcases hg with hg|hg
    ·exact(h.own id g hg).1
    ·have:=h.size;omega
   ·rcases hg with hg|hg
    ·exact(h.own id g hg).2.2.1
    ·intro hm;have:=h.imm g hm;omega
  ·obtain⟨h1,h2,h3,h4⟩:=h.own i k hi
   exact⟨h1,Nat.lt_of_lt_of_le h2 hbel.size,h3,by rw [aM];exact h4⟩
 imm k hk:=Nat.lt_of_lt_of_le (h.imm k hk) hbel.size
 sub:=h.sub
 glob k x hx:=(h.glob k x hx).ext (h.ext_revive id g b hd hother hg)
end

theorem aJ.one {w:World} {M:Nat→Prop}:∀(t:Ty) (x:t.D) (cs:List Value),aJ w M t x cs→∀v∈cs,v.oneCell'=true
 |.u8,_,_,h=>by rw [h];simp [Value.oneCell']
 |.int _,_,_,h=>by rw [h.1];simp [Value.oneCell']
 |.bool,_,_,h=>by rw [h];simp [Value.oneCell']
 |.str,_,_,h=>by rw [h.1];simp [Value.oneCell']
 |.sl t,xs,cs,h=>by obtain⟨a,cap,h1,_⟩:=h;rw [h1];simp [Value.oneCell']
 |.nil,_,_,h=>by rw [h];simp
 |.cons t ts,x,cs,h=>by
  obtain⟨c1,c2,h1,h2,h3⟩:=h
  subst h1
  intro v hv
  rcases List.mem_append.1 hv with hv|hv
  ·exact aJ.one t _ _ h2 v hv
  ·exact aJ.one ts _ _ h3 v hv
 |.arr n t,xs,cs,h=>by
  obtain⟨h0,ess,h1,h2,h3⟩:=h
  subst h1
  intro v hv
  obtain⟨e,he,hv⟩:=List.mem_flatten.1 hv
  obtain⟨i,hi⟩:=List.mem_iff_getElem?.1 he
  have hlt:i<ess.length:=(List.getElem?_eq_some_iff.1 hi).1
  have hx:(xs:List t.D)[i]? =some ((xs:List t.D)[i]'(by omega)):=List.getElem?_eq_getElem (by omega)
  exact aJ.one t _ _ (h3 i _ e hx hi) v hv
 |.fnT,_,_,h=>by rw [h];simp [Value.oneCell']
 |.mapT _,_,_,h=>by rw [h];simp [Value.oneCell']

theorem dM (w:World) (M:Nat→Prop):∀t:Ty,aJ w M t t.dflt (zc t)
 |.u8=>rfl
 |.int k=>⟨rfl,by cases k<;>simp [IntKind.min,IntKind.signed,IntKind.bits,Ty.dflt],by cases k<;>simp [IntKind.max,IntKind.signed,IntKind.bits,Ty.dflt]⟩
 |.bool=>rfl
 |.str=>⟨rfl,by simp [Ty.dflt]⟩
 |.sl t=>⟨none,0,rfl,Nat.le_refl _,by simp,fun h=>absurd rfl h⟩
 |.nil=>rfl
 |.cons t ts=>⟨_,_,rfl,dM w M t,dM w M ts⟩
 | .arr n t=>by
  refine⟨by simp [Ty.dflt],List.replicate n (zc t),rfl,by simp,fun i x es hx he=> ?_⟩
  have hx':(List.replicate n t.dflt)[i]? =some x:=hx
  rw [List.getElem?_replicate] at hx' he
  split at he
  ·rename_i hlt
   rw [if_pos hlt] at hx'
   obtain rfl:t.dflt=x:=by simpa using hx'
   obtain rfl:zc t=es:=by simpa using he
   exact dM w M t
  ·simp at he
 |.fnT=>rfl
 |.mapT _=>rfl

theorem eY {c:Cx} {H:List Blk} {w:World}:∀t:Ty,VRels c H w (cK t) (zc t)
 |.u8=> .cons _ _ _ _ (VRel.u8 (c:=c) (H:=H) (w:=w) 0) .nil
 |.int k=> .cons _ _ _ _ (.int k 0 (by cases k<;>simp [IntKind.min,IntKind.signed,IntKind.bits]) (by cases k<;>simp [IntKind.max,IntKind.signed,IntKind.bits])) .nil
 |.bool=> .cons _ _ _ _ (.b _ _ (by simp)) .nil
 |.str=> .cons _ _ _ _ (VRel.str (c:=c) (H:=H) (w:=w) [] (by simp)) .nil
 |.sl _=> .cons _ _ _ _ .nils .nil
 |.nil=> .nil
 |.cons t ts=>VRels.append (eY t) (eY ts)
 | .arr n t=>by
  have:∀n,VRels c H w ((List.replicate n (cK t)).flatten) ((List.replicate n (zc t)).flatten):=fun n=>by
   induction n with
   |zero=>exact .nil
   |succ n ih=>simp only [List.replicate_succ,List.flatten_cons];exact VRels.append (eY t) ih
  exact this n
 |.fnT=> .cons _ _ _ _ .nilfn .nil
 |.mapT _=> .cons _ _ _ _ (.undef _) .nil
end
section
theorem aJ.flat {w w':World} {M M':Nat→Prop}:∀(t:Ty) (x:t.D) (cs:List Value),t.flat=true→aJ w M t x cs→aJ w' M' t x cs
 |.u8,_,_,_,h=>h
 |.int _,_,_,_,h=>h
 |.bool,_,_,_,h=>h
 |.str,_,_,_,h=>h
 |.sl _,_,_,hf,_=>by simp [Ty.flat] at hf
 |.nil,_,_,_,h=>h
 |.cons t ts,x,cs,hf,h=>by
  simp only [Ty.flat,Bool.and_eq_true] at hf
  obtain⟨c1,c2,h1,h2,h3⟩:=h
  exact⟨c1,c2,h1,aJ.flat t x.1 c1 hf.1 h2,aJ.flat ts x.2 c2 hf.2 h3⟩
 |.arr n t,xs,cs,hf,h=>by
  obtain⟨h0,ess,h1,h2,h3⟩:=h
  exact⟨h0,ess,h1,h2,fun i x es hi he=>aJ.flat t x es hf (h3 i x es hi he)⟩
 |.fnT,_,_,_,h=>h
 |.mapT _,_,_,_,h=>h

theorem Oi {p:Prop} [Decidable p] {f:p→Prop} (h:if h:p then f h else False):∃e:p,f e:=by
 split at h
 ·rename_i e;exact⟨e,h⟩
 ·exact h.elim
theorem iY {t t':Ty} {xs:List t'.D} {K:List t.D→Prop}:castK xs K↔∃e:t'=t,K (e▸xs):=by
 unfold castK
 split
 ·exact⟨fun h=>⟨rfl,h⟩,fun⟨_,h⟩=>h⟩
 ·exact⟨fun h=>⟨rfl,h⟩,fun⟨_,h⟩=>h⟩
 ·exact⟨fun h=>⟨rfl,h⟩,fun⟨_,h⟩=>h⟩
 ·exact⟨fun h=>⟨rfl,h⟩,fun⟨_,h⟩=>h⟩
 ·rename_i k k' xs K
  by_cases hk:k'=k
  ·subst hk
   simp only [decide_true,cond_true]
   exact⟨fun h=>⟨trivial,h⟩,fun⟨_,h⟩=>h⟩
  ·simp only [hk,decide_false,cond_false,false_iff]
   rintro⟨e,_⟩
   exact hk (by cases e;rfl)
 ·exact⟨fun h=>⟨rfl,h⟩,fun⟨_,h⟩=>h⟩
 ·rename_i k k' xs K
  by_cases hk:k'=k
  ·subst hk
   simp only [decide_true,cond_true]
   exact⟨fun h=>⟨trivial,h⟩,fun⟨_,h⟩=>h⟩
  ·simp only [hk,decide_false,cond_false,false_iff]
   rintro⟨e,_⟩
   exact hk (by cases e;rfl)
 ·exact⟨fun h=>Oi h,fun⟨e,h⟩=>by rw [dif_pos e];exact h⟩
theorem cX {t t':Ty} {xs:List t'.D} {K:List t.D→Prop} (h:castK xs K):∃e:t'=t,K (e▸xs):=iY.1 h

def jJ (w:World) (M:Nat→Prop) (t:Ty) (g o:Nat) (xs:List t.D):Prop:=
 ∀(i:Nat) (x:t.D),xs[i]? =some x→∃es:List Value,aJ w M t x es∧∀(j:Nat) (v:Value),es[j]? =some v→w.cell? ⟨g,o+i*t.size+j,none⟩=some v

theorem jJ.news {w:World} {M:Nat→Prop} {t:Ty} {g:Nat}:∀(xs:List t.D) (o:Nat),jJ w M t g o xs→
  ∃news:List Value,news.length=xs.length*t.size∧(∀(j:Nat) (v:Value),news[j]? =some v→w.cell? ⟨g,o+j,none⟩=some v)∧(∀v∈news,v.oneCell'=true)∧
   ∀(i:Nat) (x:t.D),xs[i]? =some x→∃es:List Value,aJ w M t x es∧∀(j:Nat) (v:Value),es[j]? =some v→news[i*t.size+j]? =some v
 |[],o,_=>⟨[],by simp,by simp,by simp,by simp⟩
 | x::xs,o,h=>by
  obtain⟨es,h1,h2⟩:=h 0 x rfl
  have hl:=aJ.length t x es h1
  obtain⟨news,g1,g2,g3,g4⟩:=jJ.news xs (o+t.size) (fun i y hy=>by
   obtain⟨es,e1,e2⟩:=h (i+1) y (by simpa using hy)
   refine⟨es,e1,fun j v hj=> ?_⟩
   have:=e2 j v hj
   rw [Nat.succ_mul] at this
   rw [show o+t.size+i*t.size+j=o+(i*t.size+t.size)+j by omega]
   exact this)
  refine⟨es++news,?_,?_,?_,?_⟩
  ·rw [List.length_append,hl,g1,List.length_cons,Nat.succ_mul,Nat.add_comm]
  ·intro j v hj
   rw [List.getElem?_append] at hj
   split at hj
   ·have:=h2 j v hj;simpa using this
   ·have:=g2 _ v hj
    rw [show o+t.size+(j-es.length)=o+j by omega] at this
    exact this
  ·intro v hv
   rcases List.mem_append.1 hv with hv|hv
   ·exact aJ.one t x es h1 v hv
   ·exact g3 v hv
  ·intro i y hy
   cases i with
   |zero=>
    obtain rfl:x=y:=by simpa using hy
    refine⟨es,h1,fun j v hj=> ?_⟩
    have:j<es.length:=(List.getElem?_eq_some_iff.1 hj).1
    rw [List.getElem?_append,if_pos (by omega)];simpa using hj
   |succ i=>
    obtain⟨es',e1,e2⟩:=g4 i y (by simpa using hy)
    refine⟨es',e1,fun j v hj=> ?_⟩
    have:=e2 j v hj
    rw [List.getElem?_append,if_neg (by rw [hl,Nat.succ_mul];omega)]
    rw [show(i+1)*t.size+j-es.length=i*t.size+j by rw [hl,Nat.succ_mul];omega]
    exact this

section
variable {G:List (Nat×V)} {base:Nat} {w0:W0} {c:Cx} {H:List Blk} {w:World}

theorem kE (hst:St G base w0 c H w) {t:Ty} {v:V} {x:Value} {K:Bool→List t.D→Prop} (h:asRow H t v K) (hx:VRel c H w v x):
    ∃(f:Bool) (ys:List t.D) (a:Option Addr) (cap:Nat),K f ys∧x= .slice a ys.length cap∧ys.length≤cap∧cap≤maxLen∧
      (ys≠ []→∃g o,a=some ⟨g,o,none⟩∧(c.M g∨∃i,c.ρ i=some g)∧jJ w (c.im f) t g o ys):=by
  unfold asRow at h
  split at h
  · cases hx
    exact⟨true, [],none,0,h,rfl,Nat.le_refl _,by simp [maxLen],fun h=>absurd rfl h⟩
  · rename_i fr t' xs
    obtain⟨e,hk⟩:=cX h
    subst e
    cases hx with|sl _ _ _ _ hd=>
    obtain⟨a,cap,h1,h2,h3,h4⟩:=hd
    simp only [List.cons.injEq,and_true] at h1
    refine⟨_,_,a,cap,hk,h1,h2,h3,fun hne=> ?_⟩
    obtain⟨g,o,ha,hg,hr⟩:=h4 hne
    have hM : c.M g := by cases fr;· exact hg
                          · exact(hst.sub g hg).1
    refine⟨g,o,ha,.inl hM,fun i y hy=> ?_⟩
    obtain⟨es,h5,h6⟩:=hr i y hy
    refine⟨es,?_,h6⟩
    cases ht:t'.flat with
    |true=>exact aJ.flat _ _ _ ht h5
    |false=>simpa using h5
  · rename_i t0 id
    split at h
    · rename_i fr t' xs hb
      obtain⟨e,hk⟩:=cX h
      subst e
      have hk:K (fr||t'.flat) xs:=hk
      cases hx with|own _ _ n a cap hs hn hc ho=>
      simp only [aE,hb,Option.some.injEq,Prod.mk.injEq] at hs
      obtain⟨rfl,hz⟩:=hs
      refine⟨_,_,a,cap,hk,rfl,hn,hc,fun hne=> ?_⟩
      have hcap:cap≠0:=by
        intro h0;subst h0
        exact hne (List.eq_nil_of_length_eq_zero (by omega))
      obtain⟨g,e,cur,hr,ha,hg,hsz⟩:=ho.resolve_left hcap
      have hbk:=hst.blk id
      rw [hb] at hbk
      rcases hbk with⟨_,h2⟩|⟨g',e',cur',hr',hg',hsz',hel⟩
      · exact absurd h2 hne
      · rw [hr] at hr';cases hr'
        rw [hg] at hg';cases hg'
        refine⟨g,c.β id+0,ha,.inr ⟨id,hr⟩,fun i y hy=> ?_⟩
        obtain⟨es,h5,h6⟩:=hel i y hy
        refine⟨es,?_,fun j u hj=> ?_⟩
        · cases ht:t'.flat with
          |true=>exact aJ.flat _ _ _ ht h5
          |false=>simpa using h5
        · rw [Go.cell_of_row w g _ cur e (0,0) hg]
          have:=h6 j u hj
          rw [show c.β id+0+i*t'.size+j=c.β id+(i*t'.size+j) by omega]
          exact this
    · exact h.elim
  · rename_i t0 id off n
    split at h
    · rename_i fr t' xs hb
      obtain⟨e,hk⟩:=cX h
      subst e
      have hk:K (fr||t'.flat) ((xs.drop off).take n):=hk
      cases hx with|slc _ _ _ _ m a cap hs hm hn hc ho=>
      simp only [aE,hb,Option.some.injEq,Prod.mk.injEq] at hs
      obtain⟨rfl,hz⟩:=hs
      have hlen:((xs.drop off).take n).length=n:=by rw [List.length_take,List.length_drop];omega
      refine⟨_,_,a,cap,hk,by rw [hlen],by rw [hlen];exact hn,hc,fun hne=> ?_⟩
      have hcap:cap≠0:=by
        intro h0;subst h0
        exact hne (List.eq_nil_of_length_eq_zero (by rw [hlen];omega))
      obtain⟨g,e,cur,hr,ha,hg,hsz⟩:=ho.resolve_left hcap
      have hbk:=hst.blk id
      rw [hb] at hbk
      rcases hbk with⟨_,h2⟩|⟨g',e',cur',hr',hg',hsz',hel⟩
      · exact absurd (by rw [h2];simp) hne
      · rw [hr] at hr';cases hr'
        rw [hg] at hg';cases hg'
        refine⟨g,c.β id+off*t'.size,by rw [ha,hz],.inr ⟨id,hr⟩,fun i y hy=> ?_⟩
        have hi:i<n:=by
          have:=(List.getElem?_eq_some_iff.1 hy).1
          rw [hlen] at this;exact this
        rw [List.getElem?_take,if_pos hi,List.getElem?_drop] at hy
        obtain⟨es,h5,h6⟩:=hel (off+i) y hy
        refine⟨es,?_,fun j u hj=> ?_⟩
        · cases ht:t'.flat with
          |true=>exact aJ.flat _ _ _ ht h5
          |false=>simpa using h5
        · rw [Go.cell_of_row w g _ cur e (0,0) hg]
          have:=h6 j u hj
          rw [Nat.add_mul] at this
          rw [show c.β id+off*t'.size+i*t'.size+j=c.β id+(off*t'.size+i*t'.size+j) by omega]
          exact this
    · exact h.elim
  · exact h.elim

theorem jk (hst:St G base w0 c H w) {f:Bool} {t:Ty} {xs:List t.D} (cur:Array Value) (e:TypeId) (hsz:xs.length*t.size≤cur.size)
  (hel:∀(i:Nat) (x:t.D),xs[i]? =some x→∃es:List Value,aJ w (c.im f) t x es∧∀(j:Nat) (v:Value),es[j]? =some v→cur[i*t.size+j]? =some v):
  St G base w0 (c.push H.length w.heap.size) (H++ [.row f t xs]) (w.alloc (.cells cur e))∧Ext c H w (c.push H.length w.heap.size) (H++ [.row f t xs]) (w.alloc (.cells cur e)):=by
 have hext:=hst.ext_push (.row f t xs) cur e
 refine⟨hst.push _ cur e (.inr ⟨w.heap.size,e,cur,by simp [Cx.push],heap_alloc_new w _,by simpa [Cx.push] using hsz,fun i x hi=> ?_⟩),hext⟩
 rw [show(c.push H.length w.heap.size).β H.length=0 by simp [Cx.push]]
 simp only [Nat.zero_add]
 obtain⟨es,h1,h2⟩:=hel i x hi
 exact⟨es,hext.drel h1,h2⟩

theorem tw (hst:St G base w0 c H w) {f:Bool} {t:Ty} {xs:List t.D} (cur:Array Value) (e:TypeId) (cap:Nat) (hn:xs.length≤cap) (hc:cap≤maxLen) (hsz:cap*t.size≤cur.size):
  VRel (c.push H.length w.heap.size) (H++ [.row f t xs]) (w.alloc (.cells cur e)) (.own t H.length) (.slice (some ⟨w.heap.size,0,none⟩) xs.length cap):=
 .own t H.length xs.length _ cap (by simp [aE,aP]) hn hc (.inr ⟨w.heap.size,e,cur,by simp [Cx.push],by simp [Cx.push],heap_alloc_new w _,by simpa [Cx.push] using hsz⟩)

theorem io (hst:St G base w0 c H w) {cs:List V} (cur:Array Value) (e:TypeId) (hrel:VRels c H w cs cur.toList) (hone:∀v∈cur.toList,v.oneCell'=true):
  St G base w0 (c.push H.length w.heap.size) (H++ [.cells cs]) (w.alloc (.cells cur e))∧Ext c H w (c.push H.length w.heap.size) (H++ [.cells cs]) (w.alloc (.cells cur e)):=by
 have hext:=hst.ext_push (.cells cs) cur e
 have hlen:=hrel.length
 refine⟨hst.push _ cur e (.inl ⟨w.heap.size,e,cur,by simp [Cx.push],heap_alloc_new w _,⟨bF _ _ _,by simpa using Nat.le_of_eq hlen⟩,fun j hj=> ?_⟩),hext⟩
 rw [show(c.push H.length w.heap.size).β H.length=0 by simp [Cx.push],Nat.zero_add]
 have hj':j<cur.toList.length:=by omega
 have hget:cur[j]? =some (cur.toList[j]):=by simp [Array.getElem?_eq_getElem (show j<cur.size by simpa using hj')]
 refine⟨cur.toList[j],hget,hone _ (List.getElem_mem _),?_⟩
 have:=(hrel.get j).ext hext
 simpa [List.getD_eq_getElem?_getD,List.getElem?_eq_getElem hj'] using this

theorem dQ {w':World} {q:Nat} (h:St G base w0 c H w) (id g:Nat) (f:Bool) (t:Ty) (xs:List t.D) (cur:Array Value) (e:TypeId) (hid:id<H.length) (hd:aD H id= .dead)
  (hother:∀k,k<w.heap.size→(c.ρ id=some k→g≠k)→w'.heap[k]? =w.heap[k]?) (hg:c.ρ id=some g∨w.heap.size≤g) (hg':w'.heap[g]? =some (.cells cur e (0,0)))
  (hz:∀o:Obj,c.ρ id=some g→w.heap[g]? =some o→∃cur e cur',o= .cells cur e (0,0)∧w'.heap[g]? =some (.cells cur' e (0,0))∧cur'.size=cur.size)
  (hbel:Below base w w') (hsz:q+xs.length*t.size≤cur.size)
  (hel:∀(i:Nat) (x:t.D),xs[i]? =some x→∃es:List Value,aJ w (c.im f) t x es∧∀(j:Nat) (v:Value),es[j]? =some v→cur[q+(i*t.size+j)]? =some v) (cap:Nat) (hn:xs.length≤cap) (hc:cap≤maxLen) (hcs:q+cap*t.size≤cur.size):
  St G base w0 (c.at id g q) (aH H id (.row f t xs)) w'∧Ext c H w (c.at id g q) (aH H id (.row f t xs)) w'∧VRel (c.at id g q) (aH H id (.row f t xs)) w' (.own t id) (.slice (some ⟨g,q,none⟩) xs.length cap):=by
 have hext:=h.ext_revive (q:=q) id g (.row f t xs) hd hother hg
 have hgl:g<w'.heap.size:=(Array.getElem?_eq_some_iff.1 hg').1
 refine⟨h.revive id g _ hid hd hother hg hgl hz hbel (.inr ⟨g,e,cur,by simp [Cx.at],hg',by simpa [Cx.at] using hsz,fun i x hi=> ?_⟩),hext,.own t id xs.length _ cap (by simp [aE,aG,hid]) hn hc (.inr ⟨g,e,cur,by simp [Cx.at],by simp [Cx.at],hg',by simpa [Cx.at] using hcs⟩)⟩
 rw [show(c.at id g q).β id=q by simp [Cx.at]]
 obtain⟨es,h1,h2⟩:=hel i x hi
 exact⟨es,hext.drel h1,h2⟩
end
end
end Go.Proofs.YtogipicegdbhdaaDoor.Vc

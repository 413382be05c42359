/- What the check of a drawn region gives, and the trace of its walk. -/
import Derived.Test.YtailffhfhekkpaaDoorVc6
set_option linter.unusedVariables false
set_option linter.unusedSimpArgs false
namespace Go.Proofs.YtailffhfhekkpaaDoor.Vc
open Go Go.RowKit
def mC (σ:List V) (d:Option Nat) (v:V):List V:=match d with|none=>σ|some d=>bi σ d v
theorem sK (σ:List V) (d:Option Nat) (v:V) (K:List V→Prop):bo σ d v K↔K (mC σ d v):=by
 cases d with
 |none=>exact Iff.rfl
 |some d=>exact(wO v fun v=>forceL (bi σ d v) K).trans (aA _ _)

theorem Dz {E:Env} {o:Op} (h:aV E o=some 5) {σ:List V} {H:List Blk} {K:V→List V→List Blk→Prop} (hk:a9 E σ H o K):a9 E σ H o fun v σ' H'=>K v σ' H'∧∃bs,H'=H++bs:=by
 cases o<;>first|(simp [aV] at h;done)|skip
 case alloc T=>
  unfold a9 at hk ⊢
  dsimp only at hk ⊢
  unfold aalloc at hk ⊢
  generalize lk E.ty T=r at hk ⊢
  rcases r with _|t
  ·exact hk.elim
  ·cases t<;>dsimp only at hk ⊢<;>obtain⟨hb,hk⟩:=aP hk<;>rw [hb]<;>simp only [cond_true,aA] at hk ⊢<;>exact⟨hk,_,rfl⟩
 case box T x=>
  unfold a9 at hk ⊢
  dsimp only at hk ⊢
  simp only [aR] at hk ⊢
  unfold abox at hk ⊢
  generalize ev E σ x=v at hk ⊢
  generalize lk E.ty T=r at hk ⊢
  rcases r with _|t
  ·exact hk.elim
  ·have other:(bif v.isCell&&Nat.beq t.size 1 then forceL (H++ [.cells [v]]) (K (.ptr H.length 1 0 0) σ) else False)→(bif v.isCell&&Nat.beq t.size 1 then forceL (H++ [.cells [v]]) (fun H'=>K (.ptr H.length 1 0 0) σ H'∧∃bs,H'=H++bs) else False):=fun hk=>by
    obtain⟨hb,hk⟩:=aP hk
    rw [hb]
    simp only [cond_true,aA] at hk ⊢
    exact⟨hk,_,rfl⟩
   have agg:∀cs,(bif Nat.blt 0 t.size&&cI cs&&Nat.beq cs.length t.size then forceL (H++ [.cells cs]) (K (.ptr H.length 1 0 0) σ) else False)→(bif Nat.blt 0 t.size&&cI cs&&Nat.beq cs.length t.size then forceL (H++ [.cells cs]) (fun H'=>K (.ptr H.length 1 0 0) σ H'∧∃bs,H'=H++bs) else False):=fun cs hk=>by
    obtain⟨hb,hk⟩:=aP hk
    rw [hb]
    simp only [cond_true,aA] at hk ⊢
    exact⟨hk,_,rfl⟩
   cases t<;>dsimp only at hk ⊢<;>first
    |(cases v<;>first|exact agg _ hk|exact other hk)
    |skip
   obtain⟨hb,hk⟩:=aP hk
   rw [hb]
   simp only [cond_true]
   unfold asArr at hk ⊢
   split at hk<;>first|exact hk.elim|skip
   rw [iy] at hk ⊢
   obtain⟨e,h1,h2⟩:=hk
   refine⟨e,h1,?_⟩
   simp only [aA] at h2 ⊢
   exact⟨h2,_,rfl⟩
 case buildSlice T n ps=>
  unfold a9 at hk ⊢
  dsimp only at hk ⊢
  obtain⟨hb,hk⟩:=aP hk
  rw [hb]
  simp only [cond_true]
  have hp:aC (fun K:List V→Prop=>evs E σ (ps.toList.map (·.2)) K):= .evs (f:=fun vs K=>K vs) fun vs=> .ret vs
  obtain⟨vs,h1,h2⟩:=hp _ hk
  refine h2 _ ?_
  unfold abuildSlice at h1 ⊢
  generalize lk E.ty T=r at h1 ⊢
  rcases r with _|t
  ·exact h1.elim
  ·cases t<;>first|exact h1.elim|skip
   rename_i t
   have other:(bif Nat.ble (vs.length*t.size) 16777216 then asEls t vs fun f xs=>forceL (H++ [.row (t.flat||f) t xs]) (K (.own t H.length) σ) else False)→(bif Nat.ble (vs.length*t.size) 16777216 then asEls t vs fun f xs=>forceL (H++ [.row (t.flat||f) t xs]) (fun H'=>K (.own t H.length) σ H'∧∃bs,H'=H++bs) else False):=fun hk=>by
    obtain⟨hb,hk⟩:=aP hk
    rw [hb]
    simp only [cond_true]
    have hp:aC (fun K:Bool×List t.D→Prop=>asEls t vs fun f xs=>K (f,xs)):= .asEls (f:=fun f xs K=>K (f,xs)) fun f xs=> .ret _
    obtain⟨⟨f,xs⟩,h3,h4⟩:=hp (fun p=>forceL (H++ [.row (t.flat||p.1) t p.2]) (K (.own t H.length) σ)) hk
    refine h4 (fun p=>forceL (H++ [.row (t.flat||p.1) t p.2]) (fun H'=>K (.own t H.length) σ H'∧∃bs,H'=H++bs)) ?_
    simp only [aA] at h3 ⊢
    exact⟨h3,_,rfl⟩
   cases t<;>first|exact other h1|skip
   dsimp only at h1 ⊢
   cases hfz:(b6 E.frz 1000002&&mm vs) with
   |true=>rw [hfz] at h1;exact other h1
   |false=>
   rw [hfz] at h1
   simp only [cond_false] at h1 ⊢
   obtain⟨hb,h1⟩:=aP h1
   rw [hb]
   simp only [cond_true,aA] at h1 ⊢
   exact⟨h1,_,rfl⟩
 case makeSlice T l c=>
  unfold a9 at hk ⊢
  dsimp only at hk ⊢
  split at hk<;>first|exact hk.elim|skip
  revert hk
  cases (b6 E.frz 1000000&&qh _) with
  |true=>
   intro hk
   refine⟨hk.1,?_⟩
   have hk:=hk.2
   simp only [aA] at hk ⊢
   exact⟨hk,_,rfl⟩
  |false=>
   intro hk
   refine⟨hk.1,?_⟩
   have hk:=hk.2
   simp only [aA] at hk ⊢
   exact⟨hk,_,rfl⟩
 case convert S T x=>
  exfalso
  simp only [aV] at h
  split at h<;>simp at h
 case slice T x lo hi mx=>
  exfalso
  simp only [aV] at h
  split at h<;>simp at h
 case binOp op T x y yT=>
  exfalso
  simp only [aV] at h
  split at h<;>simp at h
 case call c=>
  obtain⟨callee,args,tys⟩:=c
  cases callee<;>first|(simp [aV] at h;done)|skip
  rename_i b
  cases b<;>simp [aV] at h

def zZ (E:Env) (o:Op) (c r:Nat) (qt:Prop) (σ:List V) (H H1 H2 H3:List Blk):Prop:=
 (2≤c∧c≤5∧∃F,Fok F H∧H2=ak F H∧H3=ak F H1)∨(c=0∧H3=H2)∨(c=1∧Oj E o σ H H2∧H3=H2)∨(c=2∧qt∧Cb H H2∧H3=H2)∨
  (c=6∧aD H2 r= .dead∧r<H2.length∧∀z,H1=aH H r z→H3=aH H2 r z)

structure Turned (E:Env) (o:Op) (c r:Nat) (σ:List V) (H:List Blk) (kd:Option Nat) (H1:List Blk):Prop where
 kid:∀id,kd=some id→c=4∧fS E σ o=some id
 h1:c≤1→H1=H
 h2:c=2→∃bs,H1=H++bs
 h5:c=5→∃bs,H1=H++bs
 h4:c=4→∀i,i<H.length→(∀id,fS E σ o=some id→c8 id (aD H i)=aD H i)→(∀id,fS E σ o=some id→i≠id)→aD H1 i=aD H i
 h6:c=6→∃z,H1=aH H r z∧∀k,c8 k z=z
 len:c=3∨c=4→H.length≤H1.length∧∀i,i<H.length→aD H i= .dead→aD H1 i= .dead
 h4k:c=4→∀i,i<H.length→(∀id,fS E σ o=some id→i≠id)→aD H1 i=aD H i∨∃id,fS E σ o=some id∧aD H1 i=c8 id (aD H i)
theorem Oq {E:Env} {o:Op} {σ:List V} {H H1:List Blk} {kd:Option Nat} (h2:∀id,kd=some id→fS E σ o=some id) (h3:∀i,i<H.length→(∀id,kd=some id→i≠id)→aD H1 i=gI kd (aD H i)):
  ∀i,i<H.length→(∀id,fS E σ o=some id→i≠id)→aD H1 i=aD H i∨∃id,fS E σ o=some id∧aD H1 i=c8 id (aD H i):=fun i g1 g3=>by
 have h:=h3 i g1 (fun id e=>g3 id (h2 id e))
 cases kd with
 |none=>exact .inl h
 |some id=>exact .inr ⟨id,h2 id rfl,h⟩
theorem kP:∀(H:List Blk) (r:Nat) (b:Blk),aD H r=b→aH H r b=H
 |[],_,_,_=>rfl
 |x::H,0,b,h=>by rw [show x=b from h];rfl
 |x::H,r+1,b,h=>by rw [aH,kP H r b h]
theorem Turned.none {E:Env} {o:Op} {c r:Nat} {σ:List V} {H:List Blk} (h6:c=6→aD H r= .dead):Turned E o c r σ H none H:=
 ⟨fun id e=>(by cases e),fun _=>rfl,fun _=>⟨[],by simp⟩,fun _=>⟨[],by simp⟩,fun _ _ _ _ _=>rfl,fun h=>⟨.dead,(kP H r _ (h6 h)).symm,fun _=>rfl⟩,fun _=>⟨Nat.le_refl _,fun _ _ h=>h⟩,fun _ _ _ _=> .inl rfl⟩
theorem sG {E:Env} {H:List Blk} {T:TypeId} {p v:V} {K:List Blk→Prop} (h:astore E H T p v K):astore E H T p v fun H1=>K H1∧(H1.length=H.length∧∀i,aD H i= .dead→aD H1 i= .dead):=by
 unfold astore at h ⊢
 generalize lk E.ty T=r at h ⊢
 rcases r with _|tT
 ·cases p<;>exact h.elim
 cases p<;>first|exact h.elim|skip
 rename_i id z i o
 dsimp only at h ⊢
 cases hb:aD H id with
 |dead=>rw [hb] at h;exact h.elim
 |imap fr t es=>rw [hb] at h;exact h.elim
 |mit m0 n0 s0 l0=>rw [hb] at h;first|exact h.elim|(cases m0<;>exact h.elim)
 | row fr t xs=>
  rw [hb] at h
  dsimp only at h ⊢
  have s1:∀v,(setF t (xs.getD i t.dflt) o v fun x=>(o=o∧tT.size=1)∧forceL (aH H id (.row fr t (xs.set i x))) K)→(setF t (xs.getD i t.dflt) o v fun x=>(o=o∧tT.size=1)∧forceL (aH H id (.row fr t (xs.set i x))) fun H1=>K H1∧(H1.length=H.length∧∀i,aD H i= .dead→aD H1 i= .dead)):=fun v h=>
   (aC.setF (t:=t) (x:=xs.getD i t.dflt) (o:=o) (v:=v) (f:=fun x (K:t.D→Prop)=>(o=o∧tT.size=1)∧K x) fun x=> .and (.ret x)).up (K:=fun x=>forceL (aH H id (.row fr t (xs.set i x))) K) (K2:=fun x=>forceL (aH H id (.row fr t (xs.set i x))) fun H1=>K H1∧(H1.length=H.length∧∀i,aD H i= .dead→aD H1 i= .dead)) h
    fun x hx=>(aA _ _).2 ⟨(aA _ _).1 hx,aN _ _ _,fun i hd=>by rw [aG,if_neg (fun e=>by rw [e.1,hb] at hd;cases hd)];exact hd⟩
  have s2:∀v,(asEl t v fun f x=>((fr=true→f=true)∧o=0∧tT.size=t.size)∧forceL (aH H id (.row fr t (xs.set i x))) K)→(asEl t v fun f x=>((fr=true→f=true)∧o=0∧tT.size=t.size)∧forceL (aH H id (.row fr t (xs.set i x))) fun H1=>K H1∧(H1.length=H.length∧∀i,aD H i= .dead→aD H1 i= .dead)):=fun v h=>
   (aC.asEl (t:=t) (v:=v) (f:=fun f x (K:t.D→Prop)=>((fr=true→f=true)∧o=0∧tT.size=t.size)∧K x) fun _ x=> .and (.ret x)).up (K:=fun x=>forceL (aH H id (.row fr t (xs.set i x))) K) (K2:=fun x=>forceL (aH H id (.row fr t (xs.set i x))) fun H1=>K H1∧(H1.length=H.length∧∀i,aD H i= .dead→aD H1 i= .dead)) h
    fun x hx=>(aA _ _).2 ⟨(aA _ _).1 hx,aN _ _ _,fun i hd=>by rw [aG,if_neg (fun e=>by rw [e.1,hb] at hd;cases hd)];exact hd⟩
  have s3:∀v,(asArr t v fun n f ys=>(t.flat=true∧i=0∧o=0∧ys.length=xs.length∧tT.size=n*t.size)∧forceL (aH H id (.row fr t ys)) K)→(asArr t v fun n f ys=>(t.flat=true∧i=0∧o=0∧ys.length=xs.length∧tT.size=n*t.size)∧forceL (aH H id (.row fr t ys)) fun H1=>K H1∧(H1.length=H.length∧∀i,aD H i= .dead→aD H1 i= .dead)):=fun v h=>
   (aC.asArr (t:=t) (v:=v) (f:=fun n f ys (K:List t.D→Prop)=>(t.flat=true∧i=0∧o=0∧ys.length=xs.length∧tT.size=n*t.size)∧K ys) fun _ _ x=> .and (.ret x)).up (K:=fun ys=>forceL (aH H id (.row fr t ys)) K) (K2:=fun ys=>forceL (aH H id (.row fr t ys)) fun H1=>K H1∧(H1.length=H.length∧∀i,aD H i= .dead→aD H1 i= .dead)) h
    fun x hx=>(aA _ _).2 ⟨(aA _ _).1 hx,aN _ _ _,fun i hd=>by rw [aG,if_neg (fun e=>by rw [e.1,hb] at hd;cases hd)];exact hd⟩
  cases v<;>first|exact s1 _ h|exact s2 _ h|exact s3 _ h
 |cells cs=>
  rw [hb] at h
  dsimp only at h ⊢
  cases v<;>dsimp only at h ⊢<;>simp only [aA] at h ⊢<;>exact⟨h.1,h.2,aN _ _ _,fun i hd=>by rw [aG,if_neg (fun e=>by rw [e.1,hb] at hd;cases hd)];exact hd⟩
theorem Ci {E:Env} {H:List Blk} {T:TypeId} {p v:V} {K:List Blk→Prop} (h:astore E H T p v K):astore E H T p v fun H1=>K H1∧∃id z i o,p= .ptr id z i o∧∃b,H1=aH H id b:=by
 unfold astore at h ⊢
 generalize lk E.ty T=r at h ⊢
 rcases r with _|tT
 ·cases p<;>exact h.elim
 cases p<;>first|exact h.elim|skip
 rename_i id z i o
 dsimp only at h ⊢
 cases hb:aD H id with
 |dead=>rw [hb] at h;exact h.elim
 |imap fr t es=>rw [hb] at h;exact h.elim
 |mit m0 n0 s0 l0=>rw [hb] at h;first|exact h.elim|(cases m0<;>exact h.elim)
 | row fr t xs=>
  rw [hb] at h
  dsimp only at h ⊢
  have s1:∀v,(setF t (xs.getD i t.dflt) o v fun x=>(o=o∧tT.size=1)∧forceL (aH H id (.row fr t (xs.set i x))) K)→(setF t (xs.getD i t.dflt) o v fun x=>(o=o∧tT.size=1)∧forceL (aH H id (.row fr t (xs.set i x))) fun H1=>K H1∧∃id' z' i' o',V.ptr id z i o= .ptr id' z' i' o'∧∃b,H1=aH H id' b):=fun v h=>
   (aC.setF (t:=t) (x:=xs.getD i t.dflt) (o:=o) (v:=v) (f:=fun x (K:t.D→Prop)=>(o=o∧tT.size=1)∧K x) fun x=> .and (.ret x)).up (K:=fun x=>forceL (aH H id (.row fr t (xs.set i x))) K) (K2:=fun x=>forceL (aH H id (.row fr t (xs.set i x))) fun H1=>K H1∧∃id' z' i' o',V.ptr id z i o= .ptr id' z' i' o'∧∃b,H1=aH H id' b) h
    fun x hx=>(aA _ _).2 ⟨(aA _ _).1 hx,id,z,_,_,rfl,_,rfl⟩
  have s2:∀v,(asEl t v fun f x=>((fr=true→f=true)∧o=0∧tT.size=t.size)∧forceL (aH H id (.row fr t (xs.set i x))) K)→(asEl t v fun f x=>((fr=true→f=true)∧o=0∧tT.size=t.size)∧forceL (aH H id (.row fr t (xs.set i x))) fun H1=>K H1∧∃id' z' i' o',V.ptr id z i o= .ptr id' z' i' o'∧∃b,H1=aH H id' b):=fun v h=>
   (aC.asEl (t:=t) (v:=v) (f:=fun f x (K:t.D→Prop)=>((fr=true→f=true)∧o=0∧tT.size=t.size)∧K x) fun _ x=> .and (.ret x)).up (K:=fun x=>forceL (aH H id (.row fr t (xs.set i x))) K) (K2:=fun x=>forceL (aH H id (.row fr t (xs.set i x))) fun H1=>K H1∧∃id' z' i' o',V.ptr id z i o= .ptr id' z' i' o'∧∃b,H1=aH H id' b) h
    fun x hx=>(aA _ _).2 ⟨(aA _ _).1 hx,id,z,_,_,rfl,_,rfl⟩
  have s3:∀v,(asArr t v fun n f ys=>(t.flat=true∧i=0∧o=0∧ys.length=xs.length∧tT.size=n*t.size)∧forceL (aH H id (.row fr t ys)) K)→(asArr t v fun n f ys=>(t.flat=true∧i=0∧o=0∧ys.length=xs.length∧tT.size=n*t.size)∧forceL (aH H id (.row fr t ys)) fun H1=>K H1∧∃id' z' i' o',V.ptr id z i o= .ptr id' z' i' o'∧∃b,H1=aH H id' b):=fun v h=>
   (aC.asArr (t:=t) (v:=v) (f:=fun n f ys (K:List t.D→Prop)=>(t.flat=true∧i=0∧o=0∧ys.length=xs.length∧tT.size=n*t.size)∧K ys) fun _ _ x=> .and (.ret x)).up (K:=fun ys=>forceL (aH H id (.row fr t ys)) K) (K2:=fun ys=>forceL (aH H id (.row fr t ys)) fun H1=>K H1∧∃id' z' i' o',V.ptr id z i o= .ptr id' z' i' o'∧∃b,H1=aH H id' b) h
    fun x hx=>(aA _ _).2 ⟨(aA _ _).1 hx,id,z,_,_,rfl,_,rfl⟩
  cases v<;>first|exact s1 _ h|exact s2 _ h|exact s3 _ h
 |cells cs=>
  rw [hb] at h
  dsimp only at h ⊢
  cases v<;>dsimp only at h ⊢<;>simp only [aA] at h ⊢<;>exact⟨h.1,h.2,id,z,_,_,rfl,_,rfl⟩
theorem rn {E:Env} {H:List Blk} {T:TypeId} {m k v:V} {K:List Blk→Prop} (h:amapUpdate E H T m k v K):amapUpdate E H T m k v fun H1=>K H1∧(H1.length=H.length∧∀i,aD H i= .dead→aD H1 i= .dead):=by
 unfold amapUpdate at h ⊢
 split at h<;>first|exact h.elim|skip
 rename_i t t0 id n hT
 split at h<;>first|exact h.elim|skip
 rename_i fr t' es hb
 exact(aC.asEl (t:=t') (v:=v) (f:=fun f x (K:Bool×t'.D→Prop)=>(t'=t∧es.length≤1000000000)∧K (f,x)) fun _ x=> .and (.ret _)).up (K:=fun p=>forceL (aH H id (.imap (fr&&p.1) t' (cP es n p.2))) K) (K2:=fun p=>forceL (aH H id (.imap (fr&&p.1) t' (cP es n p.2))) fun H1=>K H1∧(H1.length=H.length∧∀i,aD H i= .dead→aD H1 i= .dead)) h
  fun p hx=>(aA _ _).2 ⟨(aA _ _).1 hx,aN _ _ _,fun i hd=>by rw [aG,if_neg (fun e=>by rw [e.1,hb] at hd;cases hd)];exact hd⟩
theorem Ve {E:Env} (hd:re E) {o:Op} {r:Nat} (hal:dG E o=false) (hst:Um E o=true) {σ:List V} {H:List Blk} {K:V→List V→List Blk→Prop} (h:(bif Nat.beq r 1&&ic o then u9 E σ H o K else a9 E σ H o K)):
  ∃v kd H1,K v (bQ kd σ) H1∧Turned E o 4 r σ H kd H1∧
   ∀σ2 H2 H3 (K':V→List V→List Blk→Prop),cN E o σ σ2→zZ E o 4 r (H1=H∧v.noIds=true) σ H H1 H2 H3→K' v (bQ kd σ2) H3→(bif Nat.beq r 1&&ic o then u9 E σ2 H2 o K' else a9 E σ2 H2 o K'):=by
 cases o<;>first|(simp [Um] at hst;done)|skip
 rename_i T p x
 have happ:(Nat.beq r 1&&ic (Op.store T p x))=false:=by simp [ic]
 simp only [happ,cond_false] at h ⊢
 have hc:aV E (Op.store T p x)=some 3:=rfl
 have hself:cN E (Op.store T p x) σ σ:=fun _ _=>rfl
 obtain⟨F,hF,he⟩:=Wy (.inl hc) σ H
 have h:a9 E σ H (.store T p x) fun v σ' H'=>K v σ' H'∧(H.length≤H'.length∧∀i,i<H.length→aD H i= .dead→aD H' i= .dead)∧∀i,(∀id,fS E σ (.store T p x)=some id→i≠id)→aD H' i=aD H i:=by
  unfold a9 at h ⊢
  dsimp only at h ⊢
  simp only [aR] at h ⊢
  have hp:aC (fun K:List Blk→Prop=>astore E H T (ev E σ p) (ev E σ x) K):= .astore
  refine hp.up (Ci (sG h)) fun H1 ⟨⟨a,b,c⟩,id,z,i,o,e,b',e'⟩=>⟨a,⟨Nat.le_of_eq b.symm,fun i _ hd=>c i hd⟩,fun i hi=> ?_⟩
  rw [e',aG,if_neg]
  rintro⟨g,_⟩
  exact hi id (by simp only [fS];rw [e]) g
 rw [he σ _ hself] at h
 obtain⟨⟨v,H1⟩,h1,h2⟩:=hF _ h
 refine⟨v,none,H1,h1.1,⟨fun id e=>(by cases e),by simp,by simp,by simp,fun _ i hi _ hne=>h1.2.2 i hne,by simp,fun _=>h1.2.1,fun _ i hi hne=> .inl (h1.2.2 i hne)⟩,fun σ2 H2 H3 K' ha hel hk=> ?_⟩
 rcases hel with⟨_,_,F2,g1,g2,g3⟩|⟨h,_⟩|⟨h,_⟩|⟨h,_⟩|⟨h,_⟩<;>try omega
 subst g2 g3
 exact Ah hd hc (by omega) hal g1 (K:=fun v' σ' H'=>v'=v∧σ'=σ2∧H'=H1) (fun v' σ' H' ⟨e1,e2,e3⟩=>by rw [e1,e2,e3];exact hk) (by rw [he σ2 _ ha];exact h2 _ ⟨rfl,rfl,rfl⟩)
theorem Vz {E:Env} (hd:re E) {o:Op} {c r:Nat} (hc:aU E o=some c) {σ:List V} {H:List Blk} {K:V→List V→List Blk→Prop} (h:li E r σ H o K):
  ∃v kd H1,K v (bQ kd σ) H1∧Turned E o c r σ H kd H1∧
   ∀σ2 H2 H3 (K':V→List V→List Blk→Prop),cN E o σ σ2→zZ E o c r (H1=H∧v.noIds=true) σ H H1 H2 H3→K' v (bQ kd σ2) H3→li E r σ2 H2 o K':=by
 have hself:cN E o σ σ:=fun _ _=>rfl
 unfold aU at hc
 unfold li at h ⊢
 cases hv:jb E o with
 | true=>
  rw [hv] at h hc
  simp only [cond_true,Option.some.injEq] at h hc ⊢
  subst hc
  obtain⟨v,h1,h2⟩:=zi h
  refine⟨v,none,H,h1,.none (by simp),fun σ2 H2 H3 K' ha hel hk=>h2 σ2 H2 K' ha ?_⟩
  have e:H3=H2:=by
   rcases hel with⟨h,_⟩|⟨_,h⟩|⟨h,_⟩|⟨h,_⟩|⟨h,_⟩<;>first|omega|exact h
  rw [←e];exact hk
 |false=>
 cases hal:dG E o with
 |true=>
  rw [hv,hal] at h hc
  simp only [cond_true,cond_false,Option.some.injEq] at h hc ⊢
  subst hc
  obtain⟨v,z,h1,h2,h3⟩:=N3 h
  refine⟨v,none,_,h1,⟨fun id e=>(by cases e),by simp,by simp,by simp,by simp,fun _=>⟨z,rfl,h2⟩,by simp,by simp⟩,fun σ2 H2 H3 K' ha hel hk=> ?_⟩
  rcases hel with⟨_,h,_⟩|⟨h,_⟩|⟨h,_⟩|⟨h,_⟩|⟨_,g1,g2,g3⟩<;>try omega
  refine h3 σ2 H2 K' ha g1 g2 ?_
  rw [←g3 z rfl];exact hk
 |false=>
 rw [hv,hal] at hc
 rw [hv,hal] at h
 simp only [cond_false] at h hc ⊢
 cases hst:Um E o with
 |true=>
  rw [hst] at hc
  simp only [cond_true,Option.some.injEq] at hc
  subst hc
  exact Ve hd hal hst h
 |false=>
 rw [hst] at hc
 simp only [cond_false] at hc
 have hle:=zL hc
 cases hfz:(Nat.beq r 1&&ic o) with
 | true=>
  rw [hfz] at h
  simp only [cond_true] at h ⊢
  rw [Bool.and_eq_true] at hfz
  have hc4:c=4:=by
   have:=Dt (E:=E) hfz.2
   rw [hc] at this
   simpa using this
  subst hc4
  obtain⟨v,kd,H1,h1,h2,h3,h4,h5⟩:=Nx h
  refine⟨v,kd,H1,h1,⟨fun id e=>⟨rfl,h2 id e⟩,by simp,by simp,by simp,fun _ i g1 g2 g3=>(h3 i g1 (fun id e=>g3 id (h2 id e))).trans (oQ fun id e=>g2 id (h2 id e)),by simp,fun _=>h4,fun _=>Oq h2 h3⟩,fun σ2 H2 H3 K' ha hel hk=> ?_⟩
  rcases hel with⟨_,_,F2,g1,g2,g3⟩|⟨h,_⟩|⟨h,_⟩|⟨h,_⟩|⟨h,_⟩<;>try omega
  subst g2 g3
  exact h5 σ2 F2 K' ha g1 hk
 |false=>
 rw [hfz] at h
 simp only [cond_false] at h ⊢
 have up:2≤c→∀{v:V} {kd:Option Nat} {H1:List Blk},(∀σ2 (K':V→List V→List Blk→Prop),cN E o σ σ2→K' v (bQ kd σ2) H1→a9 E σ2 H o K')→∀σ2 F (K':V→List V→List Blk→Prop),cN E o σ σ2→Fok F H→K' v (bQ kd σ2) (ak F H1)→a9 E σ2 (ak F H) o K':=fun h2 {v kd H1} hrun σ2 F K' ha hF hk=>
  Ah hd hc h2 hal hF (K:=fun v' σ' H'=>v'=v∧σ'=bQ kd σ2∧H'=H1) (fun v' σ' H' ⟨e1,e2,e3⟩=>by rw [e1,e2,e3];exact hk) (hrun σ2 _ ha ⟨rfl,rfl,rfl⟩)
 rcases(by omega:c=0∨c=1∨c=2∨(c=3∨c=5)∨c=4) with h0|h0|h0|h0|h0
 ·subst h0
  obtain⟨F,hF,he⟩:=aAx hc σ
  rw [he σ H K hself] at h
  obtain⟨v,h1,h2⟩:=hF _ h
  refine⟨v,none,H,h1,.none (by simp),fun σ2 H2 H3 K' ha hel hk=> ?_⟩
  have e:H3=H2:=by
   rcases hel with⟨h,_⟩|⟨_,h⟩|⟨h,_⟩|⟨h,_⟩|⟨h,_⟩<;>first|omega|exact h
  subst e
  rw [he σ2 H3 K' ha]
  exact h2 _ hk
 ·subst h0
  obtain⟨v,h1,h2⟩:=W3 hc h
  refine⟨v,none,H,h1,.none (by simp),fun σ2 H2 H3 K' ha hel hk=> ?_⟩
  have e:H3=H2∧Oj E o σ H H2:=by
   rcases hel with⟨h,_⟩|⟨h,_⟩|⟨_,h,h'⟩|⟨h,_⟩|⟨h,_⟩<;>first|omega|exact⟨h',h⟩
  obtain⟨rfl,hr⟩:=e
  exact h2 σ2 _ K' ha hr hk
 ·subst h0
  have hh:=h
  obtain⟨F,_,hF,he⟩:=aAw hd hc σ H
  rw [he σ K hself] at h
  obtain⟨v,bs,h1,h2⟩:=hF _ h
  refine⟨v,none,H++bs,h1,⟨fun id e=>(by cases e),by simp,fun _=>⟨bs,rfl⟩,by simp,by simp,by simp,by simp,by simp⟩,fun σ2 H2 H3 K' ha hel hk=> ?_⟩
  rcases hel with⟨_,_,F2,g1,g2,g3⟩|⟨h,_⟩|⟨h,_⟩|⟨_,⟨hq,hv⟩,hle,e⟩|⟨h,_⟩
  ·subst g2 g3
   exact up (by omega) (kd:=none) (fun σ3 K3 ha3 hk3=>by rw [he σ3 K3 ha3];exact h2 _ hk3) σ2 F2 K' ha g1 hk
  ·omega
  ·omega
  ·subst e
   have e1:a9 E σ H o fun v' σ' H'=>v'=v∧H'=H:=by
    rw [he σ _ hself]
    exact h2 _ ⟨rfl,hq⟩
   exact Wz hd hc hv e1 σ2 _ K' ha hle hk
  ·omega
 ·have hc':aV E o=some 3∨aV E o=some 5:=by rcases h0 with h0|h0<;>subst h0<;>simp [hc]
  have hh:∃(v:V) (H1:List Blk),K v σ H1∧(c=5→∃bs,H1=H++bs)∧(c=3→H.length≤H1.length∧∀i,i<H.length→aD H i= .dead→aD H1 i= .dead)∧∀σ2 (K':V→List V→List Blk→Prop),cN E o σ σ2→K' v σ2 H1→a9 E σ2 H o K':=by
   obtain⟨F,hF,he⟩:=Wy hc' σ H
   rcases h0 with h0|h0
   ·subst h0
    have h:a9 E σ H o fun v σ' H'=>K v σ' H'∧(H.length≤H'.length∧∀i,i<H.length→aD H i= .dead→aD H' i= .dead):=by
     cases o<;>first|(simp [aV] at hc;done)|skip
     case store T p x=>
      unfold a9 at h ⊢
      dsimp only at h ⊢
      simp only [aR] at h ⊢
      have hp:aC (fun K:List Blk→Prop=>astore E H T (ev E σ p) (ev E σ x) K):= .astore
      exact hp.up (sG h) fun H1 ⟨a,b,c⟩=>⟨a,Nat.le_of_eq b.symm,fun i _ hd=>c i hd⟩
     case mapUpdate T m k x=>
      unfold a9 at h ⊢
      dsimp only at h ⊢
      simp only [aR] at h ⊢
      have hp:aC (fun K:List Blk→Prop=>amapUpdate E H T (ev E σ m) (ev E σ k) (ev E σ x) K):= .amapUpdate
      exact hp.up (rn h) fun H1 ⟨a,b,c⟩=>⟨a,Nat.le_of_eq b.symm,fun i _ hd=>c i hd⟩
     case convert S T x=>
      exfalso
      simp only [aV] at hc
      split at hc<;>simp at hc
     case slice T x lo hi mx=>
      exfalso
      simp only [aV] at hc
      split at hc<;>simp at hc
     case binOp op T x y yT=>
      exfalso
      simp only [aV] at hc
      split at hc<;>simp at hc
     case call c=>
      obtain⟨callee,args,tys⟩:=c
      cases callee<;>first|(simp [aV] at hc;done)|skip
      rename_i b
      cases b<;>simp [aV] at hc
    rw [he σ _ hself] at h
    obtain⟨⟨v,H1⟩,h1,h2⟩:=hF _ h
    exact⟨v,H1,h1.1,fun e=>by omega,fun _=>h1.2,fun σ2 K' ha hk=>by rw [he σ2 K' ha];exact h2 _ hk⟩
   ·subst h0
    have h:=Dz hc h
    rw [he σ _ hself] at h
    obtain⟨⟨v,H1⟩,h1,h2⟩:=hF _ h
    exact⟨v,H1,h1.1,fun _=>h1.2,by simp,fun σ2 K' ha hk=>by rw [he σ2 K' ha];exact h2 _ hk⟩
  obtain⟨v,H1,h1,h5,hl3,h2⟩:=hh
  refine⟨v,none,H1,h1,⟨fun id e=>(by cases e),fun hx=>by omega,fun hx=>by omega,h5,fun hx=>by omega,fun hx=>by omega,fun hx=>by rcases hx with hx|hx;exact hl3 hx;omega,fun hx=>by omega⟩,fun σ2 H2 H3 K' ha hel hk=> ?_⟩
  rcases hel with⟨_,_,F2,g1,g2,g3⟩|⟨h,_⟩|⟨h,_⟩|⟨h,_⟩|⟨h,_⟩<;>try omega
  subst g2 g3
  exact up (by omega) (kd:=none) h2 σ2 F2 K' ha g1 hk
 ·subst h0
  obtain⟨v,kd,H1,h1,h2,h3,h4,h5⟩:=S2 hc h
  refine⟨v,kd,H1,h1,⟨fun id e=>⟨rfl,h2 id e⟩,by simp,by simp,by simp,fun _ i g1 g2 g3=>(h3 i g1 (fun id e=>g3 id (h2 id e))).trans (oQ fun id e=>g2 id (h2 id e)),by simp,fun _=>h4,fun _=>Oq h2 h3⟩,fun σ2 H2 H3 K' ha hel hk=> ?_⟩
  rcases hel with⟨_,_,F2,g1,g2,g3⟩|⟨h,_⟩|⟨h,_⟩|⟨h,_⟩|⟨h,_⟩<;>try omega
  subst g2 g3
  exact up (by omega) h5 σ2 F2 K' ha g1 hk

theorem lN {t:Nat}:∀{l:List Operand},Operand.tmp t∈l→t∈jd l
 | x::l,h=>by
  rcases List.mem_cons.1 h with h|h
  ·subst h;simp [jd]
  ·have:=lN h
   cases x<;>simp [jd,this]
theorem cN.of {E:Env} {all:List Oper} {o:Oper} {σ σ2:List V} (h:∀t∈looks all o,aL σ2 t=aL σ t):cN E o.op σ σ2:=fun x hx=>by
 cases x with
 | tmp t=>
  refine h t ?_
  have:=lN hx
  unfold looks
  split
  ·split
   ·exact List.mem_cons_of_mem _ this
   ·exact this
  ·exact this
 |const v=>cases v<;>rfl
 |_=>rfl

theorem Ma {E:Env} (hd:re E) {all:List Oper} {o:Oper} {c r:Nat} (hc:aU E o.op=some c) {σ:List V} {H:List Blk} {K:V→List V→List Blk→Prop} {N:Prop} (hN:N→K .nope σ H) (h6:c=6→aD H r= .dead)
  (h:iG all σ o.guard (li E r σ H o.op K) N):
  ∃v kd H1,K v (bQ kd σ) H1∧Turned E o.op c r σ H kd H1∧
   ∀σ2 H2 H3 (K':V→List V→List Blk→Prop),(∀t∈looks all o,aL σ2 t=aL σ t)→zZ E o.op c r (H1=H∧v.noIds=true) σ H H1 H2 H3→K' v (bQ kd σ2) H3→
    iG all σ2 o.guard (li E r σ2 H2 o.op K') (K' .nope σ2 H2):=by
 have yes:li E r σ H o.op K→∃v kd H1,K v (bQ kd σ) H1∧Turned E o.op c r σ H kd H1∧
   ∀σ2 H2 H3 (K':V→List V→List Blk→Prop),(∀t∈looks all o,aL σ2 t=aL σ t)→zZ E o.op c r (H1=H∧v.noIds=true) σ H H1 H2 H3→K' v (bQ kd σ2) H3→li E r σ2 H2 o.op K':=fun h=>by
  obtain⟨v,kd,H1,h1,h2,h5⟩:=Vz hd hc h
  exact⟨v,kd,H1,h1,h2,fun σ2 H2 H3 K' ha=>h5 σ2 H2 H3 K' (cN.of ha)⟩
 have no:N→∃v kd H1,K v (bQ kd σ) H1∧Turned E o.op c r σ H kd H1∧
   ∀σ2 H2 H3 (K':V→List V→List Blk→Prop),(∀t∈looks all o,aL σ2 t=aL σ t)→zZ E o.op c r (H1=H∧v.noIds=true) σ H H1 H2 H3→K' v (bQ kd σ2) H3→K' .nope σ2 H2:=fun h=>by
  refine⟨.nope,none,H,hN h,.none h6,fun σ2 H2 H3 K' _ hel hk=> ?_⟩
  have e2:H3=H2:=by
   rcases hel with⟨_,_,F,g1,g2,g3⟩|⟨_,h⟩|⟨_,_,h⟩|⟨_,_,_,h⟩|⟨h0,g1,g2,g3⟩
   ·rw [g2,g3]
   ·exact h
   ·exact h
   ·exact h
   ·rw [g3 .dead (kP H r _ (h6 h0)).symm,kP H2 r _ g1]
  rw [←e2];exact hk
 unfold iG at h ⊢
 cases hg:o.guard with
 |none=>rw [hg] at h;exact yes h
 | some g=>
  obtain⟨j,w⟩:=g
  rw [hg] at h
  dsimp only at h ⊢
  cases hj:(all[j]?).bind (·.dst) with
  |none=>rw [hj] at h;exact h.elim
  | some t=>
   rw [hj] at h
   dsimp only at h ⊢
   have hlook:t∈looks all o:=by unfold looks;rw [hg];dsimp only;rw [hj];exact List.mem_cons_self
   generalize ht:aL σ t=vt at h
   have same:∀σ2,(∀t∈looks all o,aL σ2 t=aL σ t)→aL σ2 t=vt:=fun σ2 h1=>by rw [h1 t hlook,ht]
   cases vt<;>first|exact h.elim|skip
   case nope=>
    obtain⟨v,kd,H1,h1,h2,h5⟩:=no h
    exact⟨v,kd,H1,h1,h2,fun σ2 H2 H3 K' a c d=>by rw [same σ2 a];exact h5 σ2 H2 H3 K' a c d⟩
   case bt x=>
    cases x<;>cases w<;>dsimp only at h
    ·obtain⟨v,kd,H1,h1,h2,h5⟩:=yes h
     exact⟨v,kd,H1,h1,h2,fun σ2 H2 H3 K' a c d=>by rw [same σ2 a];exact h5 σ2 H2 H3 K' a c d⟩
    ·obtain⟨v,kd,H1,h1,h2,h5⟩:=no h
     exact⟨v,kd,H1,h1,h2,fun σ2 H2 H3 K' a c d=>by rw [same σ2 a];exact h5 σ2 H2 H3 K' a c d⟩
    ·obtain⟨v,kd,H1,h1,h2,h5⟩:=no h
     exact⟨v,kd,H1,h1,h2,fun σ2 H2 H3 K' a c d=>by rw [same σ2 a];exact h5 σ2 H2 H3 K' a c d⟩
    ·obtain⟨v,kd,H1,h1,h2,h5⟩:=yes h
     exact⟨v,kd,H1,h1,h2,fun σ2 H2 H3 K' a c d=>by rw [same σ2 a];exact h5 σ2 H2 H3 K' a c d⟩
   rename_i p
   by_cases hp:p<;>cases w<;>dsimp only at h
   ·obtain⟨v,kd,H1,h1,h2,h5⟩:=no (h.2 hp)
    exact⟨v,kd,H1,h1,h2,fun σ2 H2 H3 K' a c d=>by rw [same σ2 a];exact⟨fun hn=>absurd hp hn,fun _=>h5 σ2 H2 H3 K' a c d⟩⟩
   ·obtain⟨v,kd,H1,h1,h2,h5⟩:=yes (h.1 hp)
    exact⟨v,kd,H1,h1,h2,fun σ2 H2 H3 K' a c d=>by rw [same σ2 a];exact⟨fun _=>h5 σ2 H2 H3 K' a c d,fun hn=>absurd hp hn⟩⟩
   ·obtain⟨v,kd,H1,h1,h2,h5⟩:=yes (h.1 hp)
    exact⟨v,kd,H1,h1,h2,fun σ2 H2 H3 K' a c d=>by rw [same σ2 a];exact⟨fun _=>h5 σ2 H2 H3 K' a c d,fun hn=>absurd hn hp⟩⟩
   ·obtain⟨v,kd,H1,h1,h2,h5⟩:=no (h.2 hp)
    exact⟨v,kd,H1,h1,h2,fun σ2 H2 H3 K' a c d=>by rw [same σ2 a];exact⟨fun hn=>absurd hn hp,fun _=>h5 σ2 H2 H3 K' a c d⟩⟩

theorem tC {E:Env} {ms:List Nat} {κ:List (Option (Nat×List Nat))} {k:Nat} {chk:Nat×List Nat→Bool} (h:∀i,chk i=true):∀(l:List Oper) (i:Nat),zP E ms κ k chk i l=true
 |[],_=>rfl
 |o::l,i=>by
  rw [zP,tC h l (i+1),Bool.and_true]
  cases db κ i with
  |none=>rfl
  |some id=>dsimp only;rw [h id,Bool.or_true]
theorem wI (E:Env) (all:List Oper) (n:zX) (k:Nat):lL E all n k .nope=true:=by
 unfold lL Ny
 rw [tC (chk:=fun q=> !V.mentions q.1 V.nope) (fun i=>rfl)]
 simp [V.older]
theorem yd (E:Env) (all:List Oper) (n:zX) (k:Nat) (o:Oper) (H:List Blk):oK E all n k o H H .nope=true:=by
 unfold oK
 split<;>simp [V.noIds,wI]
def Pu (E:Env) (all:List Oper) (n:zX) (b k:Nat) (σ:List V) (H:List Blk) (σ':List V) (H':List Blk):Prop:=∀o,all[k]? =some o→∃c v kd,aU E o.op=some c∧σ'=mC (bQ kd σ) o.dst v∧wF E all n (yb E all b k o) k o σ H=true∧oK E all n k o H H' v=true∧Turned E o.op c (yb E all b k o) σ H kd H'∧
 ∀σ2 H2 H3 (K':List V→List Blk→Prop),(∀t∈looks all o,aL σ2 t=aL σ t)→zZ E o.op c (yb E all b k o) (eE E all k=true) σ H H' H2 H3→K' (mC (bQ kd σ2) o.dst v) H3→J5 E all (yb E all b k o) o σ2 H2 K'

theorem Gj {E:Env} {all:List Oper} {n:zX} {k:Nat} {o:Oper} {H H':List Blk} {v:V} (hc:aU E o.op=some 2) (hp:oK E all n k o H H' v=true) (hH:∃bs,H'=H++bs) (hn:eE E all k=true):H'=H∧v.noIds=true:=by
 unfold oK at hp
 simp only [hc,hn] at hp
 simp only [Bool.not_true,Bool.false_or,Bool.and_eq_true] at hp
 obtain⟨bs,hbs⟩:=hH
 have:=aY hp.1
 rw [hbs,List.length_append] at this
 have:bs= []:=List.eq_nil_of_length_eq_zero (by omega)
 exact⟨by rw [hbs,this,List.append_nil],hp.2⟩

theorem trace {E:Env} (hd:re E) {all:List Oper} {n:zX} {b:Nat}:∀(l:List Oper) (k:Nat) (σ:List V) (H:List Blk) (K:List V→List Blk→Prop),(∀j,l[j]? =all[k+j]?)→(∀o∈l,aU E o.op≠none)→mg E all n b k l σ H K→
  ∃(S:Nat→List V) (Hs:Nat→List Blk),S k=σ∧Hs k=H∧K (S (k+l.length)) (Hs (k+l.length))∧∀j,k≤j→j<k+l.length→Pu E all n b j (S j) (Hs j) (S (j+1)) (Hs (j+1))
 |[],k,σ,H,K,_,_,h=>⟨fun _=>σ,fun _=>H,rfl,rfl,h,fun j h1 h2=>by simp at h2;omega⟩
 | o::l,k,σ,H,K,hl,hcl,h=>by
  have h0:all[k]? =some o:=by simpa using(hl 0).symm
  cases hc:aU E o.op with
  |none=>exact absurd hc (hcl o (by simp))
  |some c=>
  have hstep:∃v kd H1,mg E all n b (k+1) l (mC (bQ kd σ) o.dst v) H1 K∧Pu E all n b k σ H (mC (bQ kd σ) o.dst v) H1:=by
   unfold mg at h
   obtain⟨hpre,h⟩:=aP h
   obtain⟨v,kd,H1,h1,h2,h5⟩:=Ma hd hc (fun hn=>by
    rw [yd]
    exact hn) (fun h6=>by
     subst h6
     unfold wF at hpre
     rw [hc] at hpre
     simp only [Pk,Bool.and_eq_true] at hpre
     have:=hpre.1.1
     split at this
     ·assumption
     ·cases this) h
   obtain⟨hpost,hk⟩:=aP h1
   refine⟨v,kd,H1,(sK _ _ _ _).1 hk,fun o' ho'=> ?_⟩
   have:o'=o:=Option.some.inj (ho'.symm.trans h0)
   subst this
   refine⟨c,v,kd,hc,rfl,hpre,hpost,h2,fun σ2 H2 H3 K' a c' d=> ?_⟩
   unfold J5
   refine h5 σ2 H2 H3 (fun v σ H=>bo σ o'.dst v fun σ=>K' σ H) a ?_ ?_
   ·rcases c' with c'|c'|c'|⟨c1,c2,c3⟩|c'
    ·exact .inl c'
    ·exact .inr (.inl c')
    ·exact .inr (.inr (.inl c'))
    ·subst c1
     exact .inr (.inr (.inr (.inl ⟨rfl,Gj hc hpost (h2.h2 rfl) c2,c3⟩)))
    ·exact .inr (.inr (.inr (.inr c')))
   ·exact(sK _ _ _ _).2 d
  obtain⟨v,kd,H1,hr,hs⟩:=hstep
  obtain⟨S,Hs,e1,e2,e3,e4⟩:=trace hd l (k+1) _ _ K (fun j=>by have:=hl (j+1);simpa [Nat.add_assoc,Nat.add_comm 1 j] using this) (fun o ho=>hcl o (by simp [ho])) hr
  refine⟨fun j=>if j≤k then σ else S j,fun j=>if j≤k then H else Hs j,by simp,by simp,?_,fun j h1 h2=> ?_⟩
  ·have:¬(k+(o::l).length≤k):=by simp
   dsimp only
   rw [if_neg this,if_neg this]
   have e:k+(o::l).length=k+1+l.length:=by simp;omega
   rw [e]
   exact e3
  ·by_cases hj:j=k
   ·subst hj
    simp only [Nat.le_refl,if_true]
    rw [if_neg (by omega),if_neg (by omega),e1,e2]
    exact hs
   ·dsimp only
    rw [if_neg (by omega),if_neg (by omega),if_neg (by omega),if_neg (by omega)]
    exact e4 j (by omega) (by simp at h2;omega)

def Ut (all:List Oper) (L:Nat→Prop):Prop:=∀j o,all[j]? =some o→L j→∀e∈o.after,Region.binds .any e=true→L e.on
def Cc (all:List Oper) (i j:Nat):Prop:=∀L,Ut all L→L j→L i

theorem rJ {all:List Oper} {acc:List Nat} (ha:∀j i,Nat.testBit (nU acc j) i=true→Cc all i j) {k:Nat} {o:Oper} (ho:all[k]? =some o):∀(l:List Edge),(∀e∈l,e∈o.after)→∀i,Nat.testBit (rK acc l) i=true→Cc all i k
 |[],_,i,h=>by simp [rK] at h
 | e::l,hl,i,h=>by
  unfold rK at h
  cases hb:Region.binds .any e with
  |false=>rw [hb] at h;exact rJ ha ho l (fun e he=>hl e (by simp [he])) i h
  | true=>
   rw [hb] at h
   simp only [cond_true] at h
   have h':Nat.testBit ((2^e.on|||nU acc e.on)|||rK acc l) i=true:=h
   rw [Nat.testBit_or,Nat.testBit_or,Bool.or_eq_true,Bool.or_eq_true] at h'
   have hon:Cc all e.on k:=fun L hL hk=>hL k o ho hk e (hl e (by simp)) hb
   rcases h' with(h'|h')|h'
   ·have:e.on=i:=by
     by_cases hh:e.on=i
     ·exact hh
     ·rw [Nat.testBit_two_pow_of_ne hh] at h';cases h'
    subst this
    exact hon
   ·exact fun L hL hk=>ha _ _ h' L hL (hon L hL hk)
   ·exact rJ ha ho l (fun e he=>hl e (by simp [he])) i h'

theorem w9 (l:List Nat) (x:Nat):∀j,nU (l++ [x]) j=if j=l.length then x else nU l j:=by
 induction l with
 |nil=>intro j;cases j<;>simp [nU]
 |cons y l ih=>intro j;cases j with
  |zero=>simp [nU]
  |succ j=>simp [nU,ih]

theorem qX {all:List Oper}:∀(l:List Oper) (acc:List Nat),(∀j,l[j]? =all[acc.length+j]?)→(∀j i,Nat.testBit (nU acc j) i=true→Cc all i j)→∀j i,Nat.testBit (nU (ab l acc) j) i=true→Cc all i j
 |[],acc,_,ha=>ha
 | o::l,acc,hl,ha=>by
  have h0:all[acc.length]? =some o:=by simpa using(hl 0).symm
  refine qX l _ (fun j=>by have:=hl (j+1);simpa [Nat.add_assoc,Nat.add_comm 1 j] using this) fun j i h=> ?_
  rw [w9] at h
  by_cases hj:j=acc.length
  ·subst hj
   rw [if_pos rfl] at h
   exact rJ ha h0 _ (fun e he=>by simpa using he) i h
  ·rw [if_neg hj] at h
   exact ha j i h
theorem Sr {all:List Oper} {i j:Nat} (h:Pp (ab all []) i j=true):Cc all i j:=
 qX all [] (by simp) (fun j i h=>by cases j<;>simp [nU] at h) j i h

theorem Ij {l:List Nat} {n:Nat}:b6 l n=false→n∉l:=by
 induction l with
 |nil=>simp
 | cons x l ih=>
  intro h
  simp only [b6,Bool.or_eq_false_iff] at h
  have h2:=ih h.2
  intro hm
  rcases List.mem_cons.1 hm with e|e
  ·subst e
   rw [Nat.beq_refl] at h
   simp at h
  ·exact h2 e

structure Pair (E:Env) (all:List Oper) (i:Nat) (x:Oper) (j:Nat) (y:Oper):Prop where
 nb:Pp (ab all []) i j=false
 q:(aU E x.op≠some 4∧aU E y.op≠some 4∧(aU E x.op=some 0∨aU E y.op=some 0∨(bp E all i x=true∧bp E all j y=true)∨(bp E all i x=true∧aU E y.op=some 5)∨(aU E x.op=some 5∧aU E y.op=some 1)∨(aU E x.op=some 1∧aU E y.op=some 2)∨(aU E x.op=some 2∧aU E y.op=some 1)))∨
  (aU E x.op=some 4∧(aU E y.op=some 0∨aU E y.op=some 1))∨((aU E x.op=some 0∨aU E x.op=some 1)∧aU E y.op=some 4)∨aU E y.op=some 6
 a1:∀d,x.dst=some d→d∉looks all y
 a2:∀d,x.dst=some d→y.dst≠some d
 a3:∀d,y.dst=some d→d∉looks all x

theorem Ic {E:Env} {o:Oper} (h:Ym E o=true):aU E o.op=some 0:=by
 unfold Ym at h
 split at h
 ·assumption
 ·cases h
theorem Ie {E:Env} {o:Oper} (h:Yn E o=true):aU E o.op=some 5:=by
 unfold Yn at h
 split at h
 ·assumption
 ·cases h
theorem yw {E:Env} {o:Oper} (h:La E o=true):aU E o.op=some 1:=by
 unfold La at h
 split at h
 ·assumption
 ·cases h
theorem Ig {E:Env} {o:Oper} (h:Yp E o=true):aU E o.op=some 2:=by
 unfold Yp at h
 split at h
 ·assumption
 ·cases h
theorem A5 {E:Env} {o:Oper} (h:Ih E o=true):aU E o.op=some 0∨aU E o.op=some 1:=by
 unfold Ih at h
 split at h
 ·exact .inl (by assumption)
 ·exact .inr (by assumption)
 ·cases h
theorem Rs {E:Env} {o:Oper} (h:Yo E o=true):aU E o.op=some 6:=by
 unfold Yo at h
 split at h
 ·assumption
 ·cases h
theorem we {E:Env} {o:Oper} (h:fF E o=true):aU E o.op=some 4:=by
 unfold fF at h
 split at h
 ·assumption
 ·cases h
theorem wh {E:Env} {o:Oper} (h:fF E o=false):aU E o.op≠some 4:=fun h'=>by simp [fF,h'] at h

theorem Cy {E:Env} {all:List Oper} {i j:Nat} {x y:Oper} (h:qL E all (ab all []) i x j y=true):Cc all i j∨Pair E all i x j y:=by
 unfold qL at h
 cases hb:Pp (ab all []) i j with
 |true=>exact .inl (Sr hb)
 | false=>
  rw [hb] at h
  simp only [Bool.false_or,Bool.and_eq_true,Bool.or_eq_true,Bool.not_eq_true'] at h
  obtain⟨h3,h4⟩:=h
  unfold Jy at h4
  rw [Bool.and_eq_true] at h4
  obtain⟨h4,h5⟩:=h4
  refine .inr ⟨hb,?_,fun d hx=> ?_,fun d hx hy=> ?_,fun d hy=> ?_⟩
  ·rcases h3 with((⟨⟨h1,h2⟩,h3⟩|h3)|h3)|h3
   ·refine .inl ⟨wh h1,wh h2,?_⟩
    rcases h3 with(((((h3|h3)|h3)|h3)|h3)|h3)|h3
    ·exact .inl (Ic h3)
    ·exact .inr (.inl (Ic h3))
    ·exact .inr (.inr (.inl h3))
    ·exact .inr (.inr (.inr (.inl ⟨h3.1,Ie h3.2⟩)))
    ·exact .inr (.inr (.inr (.inr (.inl ⟨Ie h3.1,yw h3.2⟩))))
    ·exact .inr (.inr (.inr (.inr (.inr (.inl ⟨yw h3.1,Ig h3.2⟩)))))
    ·exact .inr (.inr (.inr (.inr (.inr (.inr ⟨Ig h3.1,yw h3.2⟩)))))
   ·exact .inr (.inl ⟨we h3.1,A5 h3.2⟩)
   ·exact .inr (.inr (.inl ⟨A5 h3.1,we h3.2⟩))
   ·exact .inr (.inr (.inr (Rs h3)))
  ·rw [hx] at h4
   simp only [Bool.and_eq_true,Bool.not_eq_true'] at h4
   exact Ij h4.1
  ·rw [hx,hy] at h4
   simp only [Bool.and_eq_true,Bool.not_eq_true'] at h4
   rw [Nat.beq_refl] at h4
   simp at h4
  ·rw [hy] at h5
   simp only [Bool.not_eq_true'] at h5
   exact Ij h5

theorem sT {E:Env} {all:List Oper} {ms:List Nat} {j:Nat} {y:Oper}:∀(l:List Oper) (i0:Nat),(∀k,l[k]? =all[i0+k]?)→tp E all ms j y i0 l=true→∀i x,i0≤i→i<j→all[i]? =some x→qL E all ms i x j y=true
 |[],i0,hl,_,i,x,h1,h2,hx=>by
  have:=hl (i-i0)
  rw [show i0+(i-i0)=i by omega,hx] at this
  simp at this
 | z::l,i0,hl,h,i,x,h1,h2,hx=>by
  unfold tp at h
  cases hb:Nat.beq i0 j with
  |true=>have:=aY hb;omega
  | false=>
   rw [hb] at h
   simp only [cond_false,Bool.and_eq_true] at h
   by_cases hi:i=i0
   ·subst hi
    have:all[i]? =some z:=by simpa using(hl 0).symm
    have:x=z:=Option.some.inj (hx.symm.trans this)
    subst this
    exact h.1
   ·exact sT l (i0+1) (fun k=>by have:=hl (k+1);simpa [Nat.add_assoc,Nat.add_comm 1 k] using this) h.2 i x (by omega) h2 hx

theorem rI {j:Nat}:∀{l:List Edge},pN j l=true→∀e∈l,Region.binds .any e=true→e.on<j
 | e::l,h,e',he=>by
  simp only [pN,Bool.and_eq_true] at h
  rcases List.mem_cons.1 he with h'|h'
  ·subst h'
   intro hb
   have:=h.1
   rw [hb] at this
   simpa [Nat.blt_eq] using this
  ·exact rI h.2 e' h'

theorem sS {E:Env} {all:List Oper} {ms:List Nat}:∀(l:List Oper) (j0:Nat),(∀k,l[k]? =all[j0+k]?)→tl E all ms j0 l=true→∀j y,j0≤j→all[j]? =some y→
  aU E y.op≠none∧(∀e∈y.after,Region.binds .any e=true→e.on<j)∧∀i x,i<j→all[i]? =some x→qL E all ms i x j y=true
 |[],j0,hl,_,j,y,h1,hy=>by
  have:=hl (j-j0)
  rw [show j0+(j-j0)=j by omega,hy] at this
  simp at this
 | z::l,j0,hl,h,j,y,h1,hy=>by
  unfold tl at h
  simp only [Bool.and_eq_true] at h
  obtain⟨⟨⟨ha,hb⟩,hc⟩,hd⟩:=h
  by_cases hj:j=j0
  ·subst hj
   have:all[j]? =some z:=by simpa using(hl 0).symm
   have:y=z:=Option.some.inj (hy.symm.trans this)
   subst this
   exact⟨fun hn=>by rw [hn] at ha;simp at ha,fun e he=>rI hb e (by simpa using he),fun i x hi hx=>sT all 0 (by simp) hc i x (by omega) hi hx⟩
  ·exact sS l (j0+1) (fun k=>by have:=hl (k+1);simpa [Nat.add_assoc,Nat.add_comm 1 k] using this) hd j y (by omega) hy
end Go.Proofs.YtailffhfhekkpaaDoor.Vc

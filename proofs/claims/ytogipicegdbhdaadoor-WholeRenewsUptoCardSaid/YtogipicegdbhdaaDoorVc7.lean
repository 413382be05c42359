/- What the check of a drawn region gives, and the trace of its walk. -/
import Derived.Test.YtogipicegdbhdaaDoorVc6
set_option linter.unusedVariables false
set_option linter.unusedSimpArgs false
namespace Go.Proofs.YtogipicegdbhdaaDoor.Vc
open Go Go.RowKit
def mF (σ:List V) (d:Option Nat) (v:V):List V:=match d with|none=>σ|some d=>bg σ d v
theorem sP (σ:List V) (d:Option Nat) (v:V) (K:List V→Prop):bm σ d v K↔K (mF σ d v):=by
 cases d with
 |none=>exact Iff.rfl
 |some d=>exact(wZ v fun v=>forceL (bg σ d v) K).trans (aA _ _)

theorem Ei {E:Env} {o:Op} (h:aV E o=some 5) {σ:List V} {H:List Blk} {K:V→List V→List Blk→Prop} (hk:a7 E σ H o K):a7 E σ H o fun v σ' H'=>K v σ' H'∧∃bs,H'=H++bs:=by
 cases o<;>first|(simp [aV] at h;done)|skip
 case alloc T=>
  unfold a7 at hk ⊢
  dsimp only at hk ⊢
  unfold aalloc at hk ⊢
  generalize lk E.ty T=r at hk ⊢
  rcases r with _|t
  ·exact hk.elim
  ·cases t<;>dsimp only at hk ⊢<;>obtain⟨hb,hk⟩:=aO hk<;>rw [hb]<;>simp only [cond_true,aA] at hk ⊢<;>exact⟨hk,_,rfl⟩
 case box T x=>
  unfold a7 at hk ⊢
  dsimp only at hk ⊢
  simp only [aR] at hk ⊢
  unfold abox at hk ⊢
  generalize ev E σ x=v at hk ⊢
  generalize lk E.ty T=r at hk ⊢
  rcases r with _|t
  ·exact hk.elim
  ·have other:(bif v.isCell&&Nat.beq t.size 1 then forceL (H++ [.cells [v]]) (K (.ptr H.length 1 0 0) σ) else False)→(bif v.isCell&&Nat.beq t.size 1 then forceL (H++ [.cells [v]]) (fun H'=>K (.ptr H.length 1 0 0) σ H'∧∃bs,H'=H++bs) else False):=fun hk=>by
    obtain⟨hb,hk⟩:=aO hk
    rw [hb]
    simp only [cond_true,aA] at hk ⊢
    exact⟨hk,_,rfl⟩
   have agg:∀cs,(bif Nat.blt 0 t.size&&b7 cs&&Nat.beq cs.length t.size then forceL (H++ [.cells cs]) (K (.ptr H.length 1 0 0) σ) else False)→(bif Nat.blt 0 t.size&&b7 cs&&Nat.beq cs.length t.size then forceL (H++ [.cells cs]) (fun H'=>K (.ptr H.length 1 0 0) σ H'∧∃bs,H'=H++bs) else False):=fun cs hk=>by
    obtain⟨hb,hk⟩:=aO hk
    rw [hb]
    simp only [cond_true,aA] at hk ⊢
    exact⟨hk,_,rfl⟩
   cases t<;>dsimp only at hk ⊢<;>first
    |(cases v<;>first|exact agg _ hk|exact other hk)
    |skip
   obtain⟨hb,hk⟩:=aO hk
   rw [hb]
   simp only [cond_true]
   unfold asArr at hk ⊢
   split at hk<;>first|exact hk.elim|skip
   rw [iY] at hk ⊢
   obtain⟨e,h1,h2⟩:=hk
   refine⟨e,h1,?_⟩
   simp only [aA] at h2 ⊢
   exact⟨h2,_,rfl⟩
 case buildSlice T n ps=>
  unfold a7 at hk ⊢
  dsimp only at hk ⊢
  obtain⟨hb,hk⟩:=aO hk
  rw [hb]
  simp only [cond_true]
  have hp:aC (fun K:List V→Prop=>evs E σ (ps.toList.map (·.2)) K):= .evs (f:=fun vs K=>K vs) fun vs=> .ret vs
  obtain⟨vs,h1,h2⟩:=hp _ hk
  refine h2 _ ?_
  unfold abuildSlice at h1 ⊢
  generalize lk E.ty T=r at h1 ⊢
  rcases r with _|t
  ·exact h1.elim
  ·cases t<;>first|exact h1.elim|skip
   rename_i t
   have other:(bif Nat.ble (vs.length*t.size) 16777216 then asEls t vs fun f xs=>forceL (H++ [.row (t.flat||f) t xs]) (K (.own t H.length) σ) else False)→(bif Nat.ble (vs.length*t.size) 16777216 then asEls t vs fun f xs=>forceL (H++ [.row (t.flat||f) t xs]) (fun H'=>K (.own t H.length) σ H'∧∃bs,H'=H++bs) else False):=fun hk=>by
    obtain⟨hb,hk⟩:=aO hk
    rw [hb]
    simp only [cond_true]
    have hp:aC (fun K:Bool×List t.D→Prop=>asEls t vs fun f xs=>K (f,xs)):= .asEls (f:=fun f xs K=>K (f,xs)) fun f xs=> .ret _
    obtain⟨⟨f,xs⟩,h3,h4⟩:=hp (fun p=>forceL (H++ [.row (t.flat||p.1) t p.2]) (K (.own t H.length) σ)) hk
    refine h4 (fun p=>forceL (H++ [.row (t.flat||p.1) t p.2]) (fun H'=>K (.own t H.length) σ H'∧∃bs,H'=H++bs)) ?_
    simp only [aA] at h3 ⊢
    exact⟨h3,_,rfl⟩
   cases t<;>first|exact other h1|skip
   dsimp only at h1 ⊢
   cases hfz:(br E.frz 1000002&&mr vs) with
   |true=>rw [hfz] at h1;exact other h1
   |false=>
   rw [hfz] at h1
   simp only [cond_false] at h1 ⊢
   obtain⟨hb,h1⟩:=aO h1
   rw [hb]
   simp only [cond_true,aA] at h1 ⊢
   exact⟨h1,_,rfl⟩
 case makeSlice T l c=>
  unfold a7 at hk ⊢
  dsimp only at hk ⊢
  split at hk<;>first|exact hk.elim|skip
  revert hk
  cases (br E.frz 1000000&&ql _) with
  |true=>
   intro hk
   refine⟨hk.1,?_⟩
   have hk:=hk.2
   simp only [aA] at hk ⊢
   exact⟨hk,_,rfl⟩
  |false=>
   intro hk
   refine⟨hk.1,?_⟩
   have hk:=hk.2
   simp only [aA] at hk ⊢
   exact⟨hk,_,rfl⟩
 case convert S T x=>
  exfalso
  simp only [aV] at h
  split at h<;>simp at h
 case slice T x lo hi mx=>
  exfalso
  simp only [aV] at h
  split at h<;>simp at h
 case binOp op T x y yT=>
  exfalso
  simp only [aV] at h
  split at h<;>simp at h
 case call c=>
  obtain⟨callee,args,tys⟩:=c
  cases callee<;>first|(simp [aV] at h;done)|skip
  rename_i b
  cases b<;>simp [aV] at h

def zj (E:Env) (o:Op) (c r:Nat) (qt:Prop) (σ:List V) (H H1 H2 H3:List Blk):Prop:=
 (2≤c∧c≤5∧∃F,Fok F H∧H2=ah F H∧H3=ah F H1)∨(c=0∧H3=H2)∨(c=1∧P0 E o σ H H2∧H3=H2)∨(c=2∧qt∧Cj H H2∧H3=H2)∨
  (c=6∧aD H2 r= .dead∧r<H2.length∧∀z,H1=aH H r z→H3=aH H2 r z)

structure Turned (E:Env) (o:Op) (c r:Nat) (σ:List V) (H:List Blk) (kd:Option Nat) (H1:List Blk):Prop where
 kid:∀id,kd=some id→c=4∧fK E σ o=some id
 h1:c≤1→H1=H
 h2:c=2→∃bs,H1=H++bs
 h5:c=5→∃bs,H1=H++bs
 h4:c=4→∀i,i<H.length→(∀id,fK E σ o=some id→ci id (aD H i)=aD H i)→(∀id,fK E σ o=some id→i≠id)→aD H1 i=aD H i
 h6:c=6→∃z,H1=aH H r z∧∀k,ci k z=z
 len:c=3∨c=4→H.length≤H1.length∧∀i,i<H.length→aD H i= .dead→aD H1 i= .dead
 h4k:c=4→∀i,i<H.length→(∀id,fK E σ o=some id→i≠id)→aD H1 i=aD H i∨∃id,fK E σ o=some id∧aD H1 i=ci id (aD H i)
theorem P4 {E:Env} {o:Op} {σ:List V} {H H1:List Blk} {kd:Option Nat} (h2:∀id,kd=some id→fK E σ o=some id) (h3:∀i,i<H.length→(∀id,kd=some id→i≠id)→aD H1 i=ft kd (aD H i)):
  ∀i,i<H.length→(∀id,fK E σ o=some id→i≠id)→aD H1 i=aD H i∨∃id,fK E σ o=some id∧aD H1 i=ci id (aD H i):=fun i g1 g3=>by
 have h:=h3 i g1 (fun id e=>g3 id (h2 id e))
 cases kd with
 |none=>exact .inl h
 |some id=>exact .inr ⟨id,h2 id rfl,h⟩
theorem kL:∀(H:List Blk) (r:Nat) (b:Blk),aD H r=b→aH H r b=H
 |[],_,_,_=>rfl
 |x::H,0,b,h=>by rw [show x=b from h];rfl
 |x::H,r+1,b,h=>by rw [aH,kL H r b h]
theorem Turned.none {E:Env} {o:Op} {c r:Nat} {σ:List V} {H:List Blk} (h6:c=6→aD H r= .dead):Turned E o c r σ H none H:=
 ⟨fun id e=>(by cases e),fun _=>rfl,fun _=>⟨[],by simp⟩,fun _=>⟨[],by simp⟩,fun _ _ _ _ _=>rfl,fun h=>⟨.dead,(kL H r _ (h6 h)).symm,fun _=>rfl⟩,fun _=>⟨Nat.le_refl _,fun _ _ h=>h⟩,fun _ _ _ _=> .inl rfl⟩
theorem sL {E:Env} {H:List Blk} {T:TypeId} {p v:V} {K:List Blk→Prop} (h:astore E H T p v K):astore E H T p v fun H1=>K H1∧(H1.length=H.length∧∀i,aD H i= .dead→aD H1 i= .dead):=by
 unfold astore at h ⊢
 generalize lk E.ty T=r at h ⊢
 rcases r with _|tT
 ·cases p<;>exact h.elim
 cases p<;>first|exact h.elim|skip
 rename_i id z i o
 dsimp only at h ⊢
 cases hb:aD H id with
 |dead=>rw [hb] at h;exact h.elim
 |imap fr t es=>rw [hb] at h;exact h.elim
 |mit m0 n0 s0 l0=>rw [hb] at h;first|exact h.elim|(cases m0<;>exact h.elim)
 | row fr t xs=>
  rw [hb] at h
  dsimp only at h ⊢
  have s1:∀v,(setF t (xs.getD i t.dflt) o v fun x=>(o=o∧tT.size=1)∧forceL (aH H id (.row fr t (xs.set i x))) K)→(setF t (xs.getD i t.dflt) o v fun x=>(o=o∧tT.size=1)∧forceL (aH H id (.row fr t (xs.set i x))) fun H1=>K H1∧(H1.length=H.length∧∀i,aD H i= .dead→aD H1 i= .dead)):=fun v h=>
   (aC.setF (t:=t) (x:=xs.getD i t.dflt) (o:=o) (v:=v) (f:=fun x (K:t.D→Prop)=>(o=o∧tT.size=1)∧K x) fun x=> .and (.ret x)).up (K:=fun x=>forceL (aH H id (.row fr t (xs.set i x))) K) (K2:=fun x=>forceL (aH H id (.row fr t (xs.set i x))) fun H1=>K H1∧(H1.length=H.length∧∀i,aD H i= .dead→aD H1 i= .dead)) h
    fun x hx=>(aA _ _).2 ⟨(aA _ _).1 hx,aM _ _ _,fun i hd=>by rw [aG,if_neg (fun e=>by rw [e.1,hb] at hd;cases hd)];exact hd⟩
  have s2:∀v,(asEl t v fun f x=>((fr=true→f=true)∧o=0∧tT.size=t.size)∧forceL (aH H id (.row fr t (xs.set i x))) K)→(asEl t v fun f x=>((fr=true→f=true)∧o=0∧tT.size=t.size)∧forceL (aH H id (.row fr t (xs.set i x))) fun H1=>K H1∧(H1.length=H.length∧∀i,aD H i= .dead→aD H1 i= .dead)):=fun v h=>
   (aC.asEl (t:=t) (v:=v) (f:=fun f x (K:t.D→Prop)=>((fr=true→f=true)∧o=0∧tT.size=t.size)∧K x) fun _ x=> .and (.ret x)).up (K:=fun x=>forceL (aH H id (.row fr t (xs.set i x))) K) (K2:=fun x=>forceL (aH H id (.row fr t (xs.set i x))) fun H1=>K H1∧(H1.length=H.length∧∀i,aD H i= .dead→aD H1 i= .dead)) h
    fun x hx=>(aA _ _).2 ⟨(aA _ _).1 hx,aM _ _ _,fun i hd=>by rw [aG,if_neg (fun e=>by rw [e.1,hb] at hd;cases hd)];exact hd⟩
  have s3:∀v,(asArr t v fun n f ys=>(t.flat=true∧i=0∧o=0∧ys.length=xs.length∧tT.size=n*t.size)∧forceL (aH H id (.row fr t ys)) K)→(asArr t v fun n f ys=>(t.flat=true∧i=0∧o=0∧ys.length=xs.length∧tT.size=n*t.size)∧forceL (aH H id (.row fr t ys)) fun H1=>K H1∧(H1.length=H.length∧∀i,aD H i= .dead→aD H1 i= .dead)):=fun v h=>
   (aC.asArr (t:=t) (v:=v) (f:=fun n f ys (K:List t.D→Prop)=>(t.flat=true∧i=0∧o=0∧ys.length=xs.length∧tT.size=n*t.size)∧K ys) fun _ _ x=> .and (.ret x)).up (K:=fun ys=>forceL (aH H id (.row fr t ys)) K) (K2:=fun ys=>forceL (aH H id (.row fr t ys)) fun H1=>K H1∧(H1.length=H.length∧∀i,aD H i= .dead→aD H1 i= .dead)) h
    fun x hx=>(aA _ _).2 ⟨(aA _ _).1 hx,aM _ _ _,fun i hd=>by rw [aG,if_neg (fun e=>by rw [e.1,hb] at hd;cases hd)];exact hd⟩
  cases v<;>first|exact s1 _ h|exact s2 _ h|exact s3 _ h
 |cells cs=>
  rw [hb] at h
  dsimp only at h ⊢
  cases v<;>dsimp only at h ⊢<;>simp only [aA] at h ⊢<;>exact⟨h.1,h.2,aM _ _ _,fun i hd=>by rw [aG,if_neg (fun e=>by rw [e.1,hb] at hd;cases hd)];exact hd⟩
theorem Cr {E:Env} {H:List Blk} {T:TypeId} {p v:V} {K:List Blk→Prop} (h:astore E H T p v K):astore E H T p v fun H1=>K H1∧∃id z i o,p= .ptr id z i o∧∃b,H1=aH H id b:=by
 unfold astore at h ⊢
 generalize lk E.ty T=r at h ⊢
 rcases r with _|tT
 ·cases p<;>exact h.elim
 cases p<;>first|exact h.elim|skip
 rename_i id z i o
 dsimp only at h ⊢
 cases hb:aD H id with
 |dead=>rw [hb] at h;exact h.elim
 |imap fr t es=>rw [hb] at h;exact h.elim
 |mit m0 n0 s0 l0=>rw [hb] at h;first|exact h.elim|(cases m0<;>exact h.elim)
 | row fr t xs=>
  rw [hb] at h
  dsimp only at h ⊢
  have s1:∀v,(setF t (xs.getD i t.dflt) o v fun x=>(o=o∧tT.size=1)∧forceL (aH H id (.row fr t (xs.set i x))) K)→(setF t (xs.getD i t.dflt) o v fun x=>(o=o∧tT.size=1)∧forceL (aH H id (.row fr t (xs.set i x))) fun H1=>K H1∧∃id' z' i' o',V.ptr id z i o= .ptr id' z' i' o'∧∃b,H1=aH H id' b):=fun v h=>
   (aC.setF (t:=t) (x:=xs.getD i t.dflt) (o:=o) (v:=v) (f:=fun x (K:t.D→Prop)=>(o=o∧tT.size=1)∧K x) fun x=> .and (.ret x)).up (K:=fun x=>forceL (aH H id (.row fr t (xs.set i x))) K) (K2:=fun x=>forceL (aH H id (.row fr t (xs.set i x))) fun H1=>K H1∧∃id' z' i' o',V.ptr id z i o= .ptr id' z' i' o'∧∃b,H1=aH H id' b) h
    fun x hx=>(aA _ _).2 ⟨(aA _ _).1 hx,id,z,_,_,rfl,_,rfl⟩
  have s2:∀v,(asEl t v fun f x=>((fr=true→f=true)∧o=0∧tT.size=t.size)∧forceL (aH H id (.row fr t (xs.set i x))) K)→(asEl t v fun f x=>((fr=true→f=true)∧o=0∧tT.size=t.size)∧forceL (aH H id (.row fr t (xs.set i x))) fun H1=>K H1∧∃id' z' i' o',V.ptr id z i o= .ptr id' z' i' o'∧∃b,H1=aH H id' b):=fun v h=>
   (aC.asEl (t:=t) (v:=v) (f:=fun f x (K:t.D→Prop)=>((fr=true→f=true)∧o=0∧tT.size=t.size)∧K x) fun _ x=> .and (.ret x)).up (K:=fun x=>forceL (aH H id (.row fr t (xs.set i x))) K) (K2:=fun x=>forceL (aH H id (.row fr t (xs.set i x))) fun H1=>K H1∧∃id' z' i' o',V.ptr id z i o= .ptr id' z' i' o'∧∃b,H1=aH H id' b) h
    fun x hx=>(aA _ _).2 ⟨(aA _ _).1 hx,id,z,_,_,rfl,_,rfl⟩
  have s3:∀v,(asArr t v fun n f ys=>(t.flat=true∧i=0∧o=0∧ys.length=xs.length∧tT.size=n*t.size)∧forceL (aH H id (.row fr t ys)) K)→(asArr t v fun n f ys=>(t.flat=true∧i=0∧o=0∧ys.length=xs.length∧tT.size=n*t.size)∧forceL (aH H id (.row fr t ys)) fun H1=>K H1∧∃id' z' i' o',V.ptr id z i o= .ptr id' z' i' o'∧∃b,H1=aH H id' b):=fun v h=>
   (aC.asArr (t:=t) (v:=v) (f:=fun n f ys (K:List t.D→Prop)=>(t.flat=true∧i=0∧o=0∧ys.length=xs.length∧tT.size=n*t.size)∧K ys) fun _ _ x=> .and (.ret x)).up (K:=fun ys=>forceL (aH H id (.row fr t ys)) K) (K2:=fun ys=>forceL (aH H id (.row fr t ys)) fun H1=>K H1∧∃id' z' i' o',V.ptr id z i o= .ptr id' z' i' o'∧∃b,H1=aH H id' b) h
    fun x hx=>(aA _ _).2 ⟨(aA _ _).1 hx,id,z,_,_,rfl,_,rfl⟩
  cases v<;>first|exact s1 _ h|exact s2 _ h|exact s3 _ h
 |cells cs=>
  rw [hb] at h
  dsimp only at h ⊢
  cases v<;>dsimp only at h ⊢<;>simp only [aA] at h ⊢<;>exact⟨h.1,h.2,id,z,_,_,rfl,_,rfl⟩
theorem rx {E:Env} {H:List Blk} {T:TypeId} {m k v:V} {K:List Blk→Prop} (h:amapUpdate E H T m k v K):amapUpdate E H T m k v fun H1=>K H1∧(H1.length=H.length∧∀i,aD H i= .dead→aD H1 i= .dead):=by
 unfold amapUpdate at h ⊢
 split at h<;>first|exact h.elim|skip
 rename_i t t0 id n hT
 split at h<;>first|exact h.elim|skip
 rename_i fr t' es hb
 exact(aC.asEl (t:=t') (v:=v) (f:=fun f x (K:Bool×t'.D→Prop)=>(t'=t∧es.length≤1000000000)∧K (f,x)) fun _ x=> .and (.ret _)).up (K:=fun p=>forceL (aH H id (.imap (fr&&p.1) t' (cJ es n p.2))) K) (K2:=fun p=>forceL (aH H id (.imap (fr&&p.1) t' (cJ es n p.2))) fun H1=>K H1∧(H1.length=H.length∧∀i,aD H i= .dead→aD H1 i= .dead)) h
  fun p hx=>(aA _ _).2 ⟨(aA _ _).1 hx,aM _ _ _,fun i hd=>by rw [aG,if_neg (fun e=>by rw [e.1,hb] at hd;cases hd)];exact hd⟩
theorem W8 {E:Env} (hd:rj E) {o:Op} {r:Nat} (hal:cy E o=false) (hst:V1 E o=true) {σ:List V} {H:List Blk} {K:V→List V→List Blk→Prop} (h:(bif Nat.beq r 1&&iL o then vC E σ H o K else a7 E σ H o K)):
  ∃v kd H1,K v (bJ kd σ) H1∧Turned E o 4 r σ H kd H1∧
   ∀σ2 H2 H3 (K':V→List V→List Blk→Prop),cA E o σ σ2→zj E o 4 r (H1=H∧v.noIds=true) σ H H1 H2 H3→K' v (bJ kd σ2) H3→(bif Nat.beq r 1&&iL o then vC E σ2 H2 o K' else a7 E σ2 H2 o K'):=by
 cases o<;>first|(simp [V1] at hst;done)|skip
 rename_i T p x
 have happ:(Nat.beq r 1&&iL (Op.store T p x))=false:=by simp [iL]
 simp only [happ,cond_false] at h ⊢
 have hc:aV E (Op.store T p x)=some 3:=rfl
 have hself:cA E (Op.store T p x) σ σ:=fun _ _=>rfl
 obtain⟨F,hF,he⟩:=Ys (.inl hc) σ H
 have h:a7 E σ H (.store T p x) fun v σ' H'=>K v σ' H'∧(H.length≤H'.length∧∀i,i<H.length→aD H i= .dead→aD H' i= .dead)∧∀i,(∀id,fK E σ (.store T p x)=some id→i≠id)→aD H' i=aD H i:=by
  unfold a7 at h ⊢
  dsimp only at h ⊢
  simp only [aR] at h ⊢
  have hp:aC (fun K:List Blk→Prop=>astore E H T (ev E σ p) (ev E σ x) K):= .astore
  refine hp.up (Cr (sL h)) fun H1 ⟨⟨a,b,c⟩,id,z,i,o,e,b',e'⟩=>⟨a,⟨Nat.le_of_eq b.symm,fun i _ hd=>c i hd⟩,fun i hi=> ?_⟩
  rw [e',aG,if_neg]
  rintro⟨g,_⟩
  exact hi id (by simp only [fK];rw [e]) g
 rw [he σ _ hself] at h
 obtain⟨⟨v,H1⟩,h1,h2⟩:=hF _ h
 refine⟨v,none,H1,h1.1,⟨fun id e=>(by cases e),by simp,by simp,by simp,fun _ i hi _ hne=>h1.2.2 i hne,by simp,fun _=>h1.2.1,fun _ i hi hne=> .inl (h1.2.2 i hne)⟩,fun σ2 H2 H3 K' ha hel hk=> ?_⟩
 rcases hel with⟨_,_,F2,g1,g2,g3⟩|⟨h,_⟩|⟨h,_⟩|⟨h,_⟩|⟨h,_⟩<;>try omega
 subst g2 g3
 exact Ar hd hc (by omega) hal g1 (K:=fun v' σ' H'=>v'=v∧σ'=σ2∧H'=H1) (fun v' σ' H' ⟨e1,e2,e3⟩=>by rw [e1,e2,e3];exact hk) (by rw [he σ2 _ ha];exact h2 _ ⟨rfl,rfl,rfl⟩)
theorem Xw {E:Env} (hd:rj E) {o:Op} {c r:Nat} (hc:aU E o=some c) {σ:List V} {H:List Blk} {K:V→List V→List Blk→Prop} (h:ll E r σ H o K):
  ∃v kd H1,K v (bJ kd σ) H1∧Turned E o c r σ H kd H1∧
   ∀σ2 H2 H3 (K':V→List V→List Blk→Prop),cA E o σ σ2→zj E o c r (H1=H∧v.noIds=true) σ H H1 H2 H3→K' v (bJ kd σ2) H3→ll E r σ2 H2 o K':=by
 have hself:cA E o σ σ:=fun _ _=>rfl
 unfold aU at hc
 unfold ll at h ⊢
 cases hv:jR E o with
 | true=>
  rw [hv] at h hc
  simp only [cond_true,Option.some.injEq] at h hc ⊢
  subst hc
  obtain⟨v,h1,h2⟩:=zp h
  refine⟨v,none,H,h1,.none (by simp),fun σ2 H2 H3 K' ha hel hk=>h2 σ2 H2 K' ha ?_⟩
  have e:H3=H2:=by
   rcases hel with⟨h,_⟩|⟨_,h⟩|⟨h,_⟩|⟨h,_⟩|⟨h,_⟩<;>first|omega|exact h
  rw [←e];exact hk
 |false=>
 cases hal:cy E o with
 |true=>
  rw [hv,hal] at h hc
  simp only [cond_true,cond_false,Option.some.injEq] at h hc ⊢
  subst hc
  obtain⟨v,z,h1,h2,h3⟩:=Pi h
  refine⟨v,none,_,h1,⟨fun id e=>(by cases e),by simp,by simp,by simp,by simp,fun _=>⟨z,rfl,h2⟩,by simp,by simp⟩,fun σ2 H2 H3 K' ha hel hk=> ?_⟩
  rcases hel with⟨_,h,_⟩|⟨h,_⟩|⟨h,_⟩|⟨h,_⟩|⟨_,g1,g2,g3⟩<;>try omega
  refine h3 σ2 H2 K' ha g1 g2 ?_
  rw [←g3 z rfl];exact hk
 |false=>
 rw [hv,hal] at hc
 rw [hv,hal] at h
 simp only [cond_false] at h hc ⊢
 cases hst:V1 E o with
 |true=>
  rw [hst] at hc
  simp only [cond_true,Option.some.injEq] at hc
  subst hc
  exact W8 hd hal hst h
 |false=>
 rw [hst] at hc
 simp only [cond_false] at hc
 have hle:=zV hc
 cases hfz:(Nat.beq r 1&&iL o) with
 | true=>
  rw [hfz] at h
  simp only [cond_true] at h ⊢
  rw [Bool.and_eq_true] at hfz
  have hc4:c=4:=by
   have:=Ec (E:=E) hfz.2
   rw [hc] at this
   simpa using this
  subst hc4
  obtain⟨v,kd,H1,h1,h2,h3,h4,h5⟩:=Pb h
  refine⟨v,kd,H1,h1,⟨fun id e=>⟨rfl,h2 id e⟩,by simp,by simp,by simp,fun _ i g1 g2 g3=>(h3 i g1 (fun id e=>g3 id (h2 id e))).trans (oV fun id e=>g2 id (h2 id e)),by simp,fun _=>h4,fun _=>P4 h2 h3⟩,fun σ2 H2 H3 K' ha hel hk=> ?_⟩
  rcases hel with⟨_,_,F2,g1,g2,g3⟩|⟨h,_⟩|⟨h,_⟩|⟨h,_⟩|⟨h,_⟩<;>try omega
  subst g2 g3
  exact h5 σ2 F2 K' ha g1 hk
 |false=>
 rw [hfz] at h
 simp only [cond_false] at h ⊢
 have up:2≤c→∀{v:V} {kd:Option Nat} {H1:List Blk},(∀σ2 (K':V→List V→List Blk→Prop),cA E o σ σ2→K' v (bJ kd σ2) H1→a7 E σ2 H o K')→∀σ2 F (K':V→List V→List Blk→Prop),cA E o σ σ2→Fok F H→K' v (bJ kd σ2) (ah F H1)→a7 E σ2 (ah F H) o K':=fun h2 {v kd H1} hrun σ2 F K' ha hF hk=>
  Ar hd hc h2 hal hF (K:=fun v' σ' H'=>v'=v∧σ'=bJ kd σ2∧H'=H1) (fun v' σ' H' ⟨e1,e2,e3⟩=>by rw [e1,e2,e3];exact hk) (hrun σ2 _ ha ⟨rfl,rfl,rfl⟩)
 rcases(by omega:c=0∨c=1∨c=2∨(c=3∨c=5)∨c=4) with h0|h0|h0|h0|h0
 ·subst h0
  obtain⟨F,hF,he⟩:=aBl hc σ
  rw [he σ H K hself] at h
  obtain⟨v,h1,h2⟩:=hF _ h
  refine⟨v,none,H,h1,.none (by simp),fun σ2 H2 H3 K' ha hel hk=> ?_⟩
  have e:H3=H2:=by
   rcases hel with⟨h,_⟩|⟨_,h⟩|⟨h,_⟩|⟨h,_⟩|⟨h,_⟩<;>first|omega|exact h
  subst e
  rw [he σ2 H3 K' ha]
  exact h2 _ hk
 ·subst h0
  obtain⟨v,h1,h2⟩:=Yu hc h
  refine⟨v,none,H,h1,.none (by simp),fun σ2 H2 H3 K' ha hel hk=> ?_⟩
  have e:H3=H2∧P0 E o σ H H2:=by
   rcases hel with⟨h,_⟩|⟨h,_⟩|⟨_,h,h'⟩|⟨h,_⟩|⟨h,_⟩<;>first|omega|exact⟨h',h⟩
  obtain⟨rfl,hr⟩:=e
  exact h2 σ2 _ K' ha hr hk
 ·subst h0
  have hh:=h
  obtain⟨F,_,hF,he⟩:=aBk hd hc σ H
  rw [he σ K hself] at h
  obtain⟨v,bs,h1,h2⟩:=hF _ h
  refine⟨v,none,H++bs,h1,⟨fun id e=>(by cases e),by simp,fun _=>⟨bs,rfl⟩,by simp,by simp,by simp,by simp,by simp⟩,fun σ2 H2 H3 K' ha hel hk=> ?_⟩
  rcases hel with⟨_,_,F2,g1,g2,g3⟩|⟨h,_⟩|⟨h,_⟩|⟨_,⟨hq,hv⟩,hle,e⟩|⟨h,_⟩
  ·subst g2 g3
   exact up (by omega) (kd:=none) (fun σ3 K3 ha3 hk3=>by rw [he σ3 K3 ha3];exact h2 _ hk3) σ2 F2 K' ha g1 hk
  ·omega
  ·omega
  ·subst e
   have e1:a7 E σ H o fun v' σ' H'=>v'=v∧H'=H:=by
    rw [he σ _ hself]
    exact h2 _ ⟨rfl,hq⟩
   exact Yt hd hc hv e1 σ2 _ K' ha hle hk
  ·omega
 ·have hc':aV E o=some 3∨aV E o=some 5:=by rcases h0 with h0|h0<;>subst h0<;>simp [hc]
  have hh:∃(v:V) (H1:List Blk),K v σ H1∧(c=5→∃bs,H1=H++bs)∧(c=3→H.length≤H1.length∧∀i,i<H.length→aD H i= .dead→aD H1 i= .dead)∧∀σ2 (K':V→List V→List Blk→Prop),cA E o σ σ2→K' v σ2 H1→a7 E σ2 H o K':=by
   obtain⟨F,hF,he⟩:=Ys hc' σ H
   rcases h0 with h0|h0
   ·subst h0
    have h:a7 E σ H o fun v σ' H'=>K v σ' H'∧(H.length≤H'.length∧∀i,i<H.length→aD H i= .dead→aD H' i= .dead):=by
     cases o<;>first|(simp [aV] at hc;done)|skip
     case store T p x=>
      unfold a7 at h ⊢
      dsimp only at h ⊢
      simp only [aR] at h ⊢
      have hp:aC (fun K:List Blk→Prop=>astore E H T (ev E σ p) (ev E σ x) K):= .astore
      exact hp.up (sL h) fun H1 ⟨a,b,c⟩=>⟨a,Nat.le_of_eq b.symm,fun i _ hd=>c i hd⟩
     case mapUpdate T m k x=>
      unfold a7 at h ⊢
      dsimp only at h ⊢
      simp only [aR] at h ⊢
      have hp:aC (fun K:List Blk→Prop=>amapUpdate E H T (ev E σ m) (ev E σ k) (ev E σ x) K):= .amapUpdate
      exact hp.up (rx h) fun H1 ⟨a,b,c⟩=>⟨a,Nat.le_of_eq b.symm,fun i _ hd=>c i hd⟩
     case convert S T x=>
      exfalso
      simp only [aV] at hc
      split at hc<;>simp at hc
     case slice T x lo hi mx=>
      exfalso
      simp only [aV] at hc
      split at hc<;>simp at hc
     case binOp op T x y yT=>
      exfalso
      simp only [aV] at hc
      split at hc<;>simp at hc
     case call c=>
      obtain⟨callee,args,tys⟩:=c
      cases callee<;>first|(simp [aV] at hc;done)|skip
      rename_i b
      cases b<;>simp [aV] at hc
    rw [he σ _ hself] at h
    obtain⟨⟨v,H1⟩,h1,h2⟩:=hF _ h
    exact⟨v,H1,h1.1,fun e=>by omega,fun _=>h1.2,fun σ2 K' ha hk=>by rw [he σ2 K' ha];exact h2 _ hk⟩
   ·subst h0
    have h:=Ei hc h
    rw [he σ _ hself] at h
    obtain⟨⟨v,H1⟩,h1,h2⟩:=hF _ h
    exact⟨v,H1,h1.1,fun _=>h1.2,by simp,fun σ2 K' ha hk=>by rw [he σ2 K' ha];exact h2 _ hk⟩
  obtain⟨v,H1,h1,h5,hl3,h2⟩:=hh
  refine⟨v,none,H1,h1,⟨fun id e=>(by cases e),fun hx=>by omega,fun hx=>by omega,h5,fun hx=>by omega,fun hx=>by omega,fun hx=>by rcases hx with hx|hx;exact hl3 hx;omega,fun hx=>by omega⟩,fun σ2 H2 H3 K' ha hel hk=> ?_⟩
  rcases hel with⟨_,_,F2,g1,g2,g3⟩|⟨h,_⟩|⟨h,_⟩|⟨h,_⟩|⟨h,_⟩<;>try omega
  subst g2 g3
  exact up (by omega) (kd:=none) h2 σ2 F2 K' ha g1 hk
 ·subst h0
  obtain⟨v,kd,H1,h1,h2,h3,h4,h5⟩:=Ut hc h
  refine⟨v,kd,H1,h1,⟨fun id e=>⟨rfl,h2 id e⟩,by simp,by simp,by simp,fun _ i g1 g2 g3=>(h3 i g1 (fun id e=>g3 id (h2 id e))).trans (oV fun id e=>g2 id (h2 id e)),by simp,fun _=>h4,fun _=>P4 h2 h3⟩,fun σ2 H2 H3 K' ha hel hk=> ?_⟩
  rcases hel with⟨_,_,F2,g1,g2,g3⟩|⟨h,_⟩|⟨h,_⟩|⟨h,_⟩|⟨h,_⟩<;>try omega
  subst g2 g3
  exact up (by omega) h5 σ2 F2 K' ha g1 hk

theorem lO {t:Nat}:∀{l:List Operand},Operand.tmp t∈l→t∈jT l
 | x::l,h=>by
  rcases List.mem_cons.1 h with h|h
  ·subst h;simp [jT]
  ·have:=lO h
   cases x<;>simp [jT,this]
theorem cA.of {E:Env} {all:List Oper} {o:Oper} {σ σ2:List V} (h:∀t∈looks all o,aL σ2 t=aL σ t):cA E o.op σ σ2:=fun x hx=>by
 cases x with
 | tmp t=>
  refine h t ?_
  have:=lO hx
  unfold looks
  split
  ·split
   ·exact List.mem_cons_of_mem _ this
   ·exact this
  ·exact this
 |const v=>cases v<;>rfl
 |_=>rfl

theorem Ni {E:Env} (hd:rj E) {all:List Oper} {o:Oper} {c r:Nat} (hc:aU E o.op=some c) {σ:List V} {H:List Blk} {K:V→List V→List Blk→Prop} {N:Prop} (hN:N→K .nope σ H) (h6:c=6→aD H r= .dead)
  (h:gn all σ o.guard (ll E r σ H o.op K) N):
  ∃v kd H1,K v (bJ kd σ) H1∧Turned E o.op c r σ H kd H1∧
   ∀σ2 H2 H3 (K':V→List V→List Blk→Prop),(∀t∈looks all o,aL σ2 t=aL σ t)→zj E o.op c r (H1=H∧v.noIds=true) σ H H1 H2 H3→K' v (bJ kd σ2) H3→
    gn all σ2 o.guard (ll E r σ2 H2 o.op K') (K' .nope σ2 H2):=by
 have yes:ll E r σ H o.op K→∃v kd H1,K v (bJ kd σ) H1∧Turned E o.op c r σ H kd H1∧
   ∀σ2 H2 H3 (K':V→List V→List Blk→Prop),(∀t∈looks all o,aL σ2 t=aL σ t)→zj E o.op c r (H1=H∧v.noIds=true) σ H H1 H2 H3→K' v (bJ kd σ2) H3→ll E r σ2 H2 o.op K':=fun h=>by
  obtain⟨v,kd,H1,h1,h2,h5⟩:=Xw hd hc h
  exact⟨v,kd,H1,h1,h2,fun σ2 H2 H3 K' ha=>h5 σ2 H2 H3 K' (cA.of ha)⟩
 have no:N→∃v kd H1,K v (bJ kd σ) H1∧Turned E o.op c r σ H kd H1∧
   ∀σ2 H2 H3 (K':V→List V→List Blk→Prop),(∀t∈looks all o,aL σ2 t=aL σ t)→zj E o.op c r (H1=H∧v.noIds=true) σ H H1 H2 H3→K' v (bJ kd σ2) H3→K' .nope σ2 H2:=fun h=>by
  refine⟨.nope,none,H,hN h,.none h6,fun σ2 H2 H3 K' _ hel hk=> ?_⟩
  have e2:H3=H2:=by
   rcases hel with⟨_,_,F,g1,g2,g3⟩|⟨_,h⟩|⟨_,_,h⟩|⟨_,_,_,h⟩|⟨h0,g1,g2,g3⟩
   ·rw [g2,g3]
   ·exact h
   ·exact h
   ·exact h
   ·rw [g3 .dead (kL H r _ (h6 h0)).symm,kL H2 r _ g1]
  rw [←e2];exact hk
 unfold gn at h ⊢
 cases hg:o.guard with
 |none=>rw [hg] at h;exact yes h
 | some g=>
  obtain⟨j,w⟩:=g
  rw [hg] at h
  dsimp only at h ⊢
  cases hj:(all[j]?).bind (·.dst) with
  |none=>rw [hj] at h;exact h.elim
  | some t=>
   rw [hj] at h
   dsimp only at h ⊢
   have hlook:t∈looks all o:=by unfold looks;rw [hg];dsimp only;rw [hj];exact List.mem_cons_self
   generalize ht:aL σ t=vt at h
   have same:∀σ2,(∀t∈looks all o,aL σ2 t=aL σ t)→aL σ2 t=vt:=fun σ2 h1=>by rw [h1 t hlook,ht]
   cases vt<;>first|exact h.elim|skip
   case nope=>
    obtain⟨v,kd,H1,h1,h2,h5⟩:=no h
    exact⟨v,kd,H1,h1,h2,fun σ2 H2 H3 K' a c d=>by rw [same σ2 a];exact h5 σ2 H2 H3 K' a c d⟩
   case bt x=>
    cases x<;>cases w<;>dsimp only at h
    ·obtain⟨v,kd,H1,h1,h2,h5⟩:=yes h
     exact⟨v,kd,H1,h1,h2,fun σ2 H2 H3 K' a c d=>by rw [same σ2 a];exact h5 σ2 H2 H3 K' a c d⟩
    ·obtain⟨v,kd,H1,h1,h2,h5⟩:=no h
     exact⟨v,kd,H1,h1,h2,fun σ2 H2 H3 K' a c d=>by rw [same σ2 a];exact h5 σ2 H2 H3 K' a c d⟩
    ·obtain⟨v,kd,H1,h1,h2,h5⟩:=no h
     exact⟨v,kd,H1,h1,h2,fun σ2 H2 H3 K' a c d=>by rw [same σ2 a];exact h5 σ2 H2 H3 K' a c d⟩
    ·obtain⟨v,kd,H1,h1,h2,h5⟩:=yes h
     exact⟨v,kd,H1,h1,h2,fun σ2 H2 H3 K' a c d=>by rw [same σ2 a];exact h5 σ2 H2 H3 K' a c d⟩
   rename_i p
   by_cases hp:p<;>cases w<;>dsimp only at h
   ·obtain⟨v,kd,H1,h1,h2,h5⟩:=no (h.2 hp)
    exact⟨v,kd,H1,h1,h2,fun σ2 H2 H3 K' a c d=>by rw [same σ2 a];exact⟨fun hn=>absurd hp hn,fun _=>h5 σ2 H2 H3 K' a c d⟩⟩
   ·obtain⟨v,kd,H1,h1,h2,h5⟩:=yes (h.1 hp)
    exact⟨v,kd,H1,h1,h2,fun σ2 H2 H3 K' a c d=>by rw [same σ2 a];exact⟨fun _=>h5 σ2 H2 H3 K' a c d,fun hn=>absurd hp hn⟩⟩
   ·obtain⟨v,kd,H1,h1,h2,h5⟩:=yes (h.1 hp)
    exact⟨v,kd,H1,h1,h2,fun σ2 H2 H3 K' a c d=>by rw [same σ2 a];exact⟨fun _=>h5 σ2 H2 H3 K' a c d,fun hn=>absurd hn hp⟩⟩
   ·obtain⟨v,kd,H1,h1,h2,h5⟩:=no (h.2 hp)
    exact⟨v,kd,H1,h1,h2,fun σ2 H2 H3 K' a c d=>by rw [same σ2 a];exact⟨fun hn=>absurd hn hp,fun _=>h5 σ2 H2 H3 K' a c d⟩⟩

theorem tG {E:Env} {ms:List Nat} {κ:List (Option (Nat×List Nat))} {k:Nat} {chk:Nat×List Nat→Bool} (h:∀i,chk i=true):∀(l:List Oper) (i:Nat),zY E ms κ k chk i l=true
 |[],_=>rfl
 |o::l,i=>by
  rw [zY,tG h l (i+1),Bool.and_true]
  cases dK κ i with
  |none=>rfl
  |some id=>dsimp only;rw [h id,Bool.or_true]
theorem wT (E:Env) (all:List Oper) (n:zh) (k:Nat):lL E all n k .nope=true:=by
 unfold lL Pe
 rw [tG (chk:=fun q=> !V.mentions q.1 V.nope) (fun i=>rfl)]
 simp [V.older]
theorem yq (E:Env) (all:List Oper) (n:zh) (k:Nat) (o:Oper) (H:List Blk):oP E all n k o H H .nope=true:=by
 unfold oP
 split<;>simp [V.noIds,wT]
def Q6 (E:Env) (all:List Oper) (n:zh) (b k:Nat) (σ:List V) (H:List Blk) (σ':List V) (H':List Blk):Prop:=∀o,all[k]? =some o→∃c v kd,aU E o.op=some c∧σ'=mF (bJ kd σ) o.dst v∧wQ E all n (yo E all b k o) k o σ H=true∧oP E all n k o H H' v=true∧Turned E o.op c (yo E all b k o) σ H kd H'∧
 ∀σ2 H2 H3 (K':List V→List Blk→Prop),(∀t∈looks all o,aL σ2 t=aL σ t)→zj E o.op c (yo E all b k o) (dj E all k=true) σ H H' H2 H3→K' (mF (bJ kd σ2) o.dst v) H3→Ky E all (yo E all b k o) o σ2 H2 K'

theorem Hg {E:Env} {all:List Oper} {n:zh} {k:Nat} {o:Oper} {H H':List Blk} {v:V} (hc:aU E o.op=some 2) (hp:oP E all n k o H H' v=true) (hH:∃bs,H'=H++bs) (hn:dj E all k=true):H'=H∧v.noIds=true:=by
 unfold oP at hp
 simp only [hc,hn] at hp
 simp only [Bool.not_true,Bool.false_or,Bool.and_eq_true] at hp
 obtain⟨bs,hbs⟩:=hH
 have:=aa hp.1
 rw [hbs,List.length_append] at this
 have:bs= []:=List.eq_nil_of_length_eq_zero (by omega)
 exact⟨by rw [hbs,this,List.append_nil],hp.2⟩

theorem trace {E:Env} (hd:rj E) {all:List Oper} {n:zh} {b:Nat}:∀(l:List Oper) (k:Nat) (σ:List V) (H:List Blk) (K:List V→List Blk→Prop),(∀j,l[j]? =all[k+j]?)→(∀o∈l,aU E o.op≠none)→mn E all n b k l σ H K→
  ∃(S:Nat→List V) (Hs:Nat→List Blk),S k=σ∧Hs k=H∧K (S (k+l.length)) (Hs (k+l.length))∧∀j,k≤j→j<k+l.length→Q6 E all n b j (S j) (Hs j) (S (j+1)) (Hs (j+1))
 |[],k,σ,H,K,_,_,h=>⟨fun _=>σ,fun _=>H,rfl,rfl,h,fun j h1 h2=>by simp at h2;omega⟩
 | o::l,k,σ,H,K,hl,hcl,h=>by
  have h0:all[k]? =some o:=by simpa using(hl 0).symm
  cases hc:aU E o.op with
  |none=>exact absurd hc (hcl o (by simp))
  |some c=>
  have hstep:∃v kd H1,mn E all n b (k+1) l (mF (bJ kd σ) o.dst v) H1 K∧Q6 E all n b k σ H (mF (bJ kd σ) o.dst v) H1:=by
   unfold mn at h
   obtain⟨hpre,h⟩:=aO h
   obtain⟨v,kd,H1,h1,h2,h5⟩:=Ni hd hc (fun hn=>by
    rw [yq]
    exact hn) (fun h6=>by
     subst h6
     unfold wQ at hpre
     rw [hc] at hpre
     simp only [Qx,Bool.and_eq_true] at hpre
     have:=hpre.1.1
     split at this
     ·assumption
     ·cases this) h
   obtain⟨hpost,hk⟩:=aO h1
   refine⟨v,kd,H1,(sP _ _ _ _).1 hk,fun o' ho'=> ?_⟩
   have:o'=o:=Option.some.inj (ho'.symm.trans h0)
   subst this
   refine⟨c,v,kd,hc,rfl,hpre,hpost,h2,fun σ2 H2 H3 K' a c' d=> ?_⟩
   unfold Ky
   refine h5 σ2 H2 H3 (fun v σ H=>bm σ o'.dst v fun σ=>K' σ H) a ?_ ?_
   ·rcases c' with c'|c'|c'|⟨c1,c2,c3⟩|c'
    ·exact .inl c'
    ·exact .inr (.inl c')
    ·exact .inr (.inr (.inl c'))
    ·subst c1
     exact .inr (.inr (.inr (.inl ⟨rfl,Hg hc hpost (h2.h2 rfl) c2,c3⟩)))
    ·exact .inr (.inr (.inr (.inr c')))
   ·exact(sP _ _ _ _).2 d
  obtain⟨v,kd,H1,hr,hs⟩:=hstep
  obtain⟨S,Hs,e1,e2,e3,e4⟩:=trace hd l (k+1) _ _ K (fun j=>by have:=hl (j+1);simpa [Nat.add_assoc,Nat.add_comm 1 j] using this) (fun o ho=>hcl o (by simp [ho])) hr
  refine⟨fun j=>if j≤k then σ else S j,fun j=>if j≤k then H else Hs j,by simp,by simp,?_,fun j h1 h2=> ?_⟩
  ·have:¬(k+(o::l).length≤k):=by simp
   dsimp only
   rw [if_neg this,if_neg this]
   have e:k+(o::l).length=k+1+l.length:=by simp;omega
   rw [e]
   exact e3
  ·by_cases hj:j=k
   ·subst hj
    simp only [Nat.le_refl,if_true]
    rw [if_neg (by omega),if_neg (by omega),e1,e2]
    exact hs
   ·dsimp only
    rw [if_neg (by omega),if_neg (by omega),if_neg (by omega),if_neg (by omega)]
    exact e4 j (by omega) (by simp at h2;omega)

def Wa (all:List Oper) (L:Nat→Prop):Prop:=∀j o,all[j]? =some o→L j→∀e∈o.after,Region.binds .any e=true→L e.on
def Ck (all:List Oper) (i j:Nat):Prop:=∀L,Wa all L→L j→L i

theorem rN {all:List Oper} {acc:List Nat} (ha:∀j i,Nat.testBit (nX acc j) i=true→Ck all i j) {k:Nat} {o:Oper} (ho:all[k]? =some o):∀(l:List Edge),(∀e∈l,e∈o.after)→∀i,Nat.testBit (rO acc l) i=true→Ck all i k
 |[],_,i,h=>by simp [rO] at h
 | e::l,hl,i,h=>by
  unfold rO at h
  cases hb:Region.binds .any e with
  |false=>rw [hb] at h;exact rN ha ho l (fun e he=>hl e (by simp [he])) i h
  | true=>
   rw [hb] at h
   simp only [cond_true] at h
   have h':Nat.testBit ((2^e.on|||nX acc e.on)|||rO acc l) i=true:=h
   rw [Nat.testBit_or,Nat.testBit_or,Bool.or_eq_true,Bool.or_eq_true] at h'
   have hon:Ck all e.on k:=fun L hL hk=>hL k o ho hk e (hl e (by simp)) hb
   rcases h' with(h'|h')|h'
   ·have:e.on=i:=by
     by_cases hh:e.on=i
     ·exact hh
     ·rw [Nat.testBit_two_pow_of_ne hh] at h';cases h'
    subst this
    exact hon
   ·exact fun L hL hk=>ha _ _ h' L hL (hon L hL hk)
   ·exact rN ha ho l (fun e he=>hl e (by simp [he])) i h'

theorem xI (l:List Nat) (x:Nat):∀j,nX (l++ [x]) j=if j=l.length then x else nX l j:=by
 induction l with
 |nil=>intro j;cases j<;>simp [nX]
 |cons y l ih=>intro j;cases j with
  |zero=>simp [nX]
  |succ j=>simp [nX,ih]

theorem qb {all:List Oper}:∀(l:List Oper) (acc:List Nat),(∀j,l[j]? =all[acc.length+j]?)→(∀j i,Nat.testBit (nX acc j) i=true→Ck all i j)→∀j i,Nat.testBit (nX (ae l acc) j) i=true→Ck all i j
 |[],acc,_,ha=>ha
 | o::l,acc,hl,ha=>by
  have h0:all[acc.length]? =some o:=by simpa using(hl 0).symm
  refine qb l _ (fun j=>by have:=hl (j+1);simpa [Nat.add_assoc,Nat.add_comm 1 j] using this) fun j i h=> ?_
  rw [xI] at h
  by_cases hj:j=acc.length
  ·subst hj
   rw [if_pos rfl] at h
   exact rN ha h0 _ (fun e he=>by simpa using he) i h
  ·rw [if_neg hj] at h
   exact ha j i h
theorem Uj {all:List Oper} {i j:Nat} (h:Q2 (ae all []) i j=true):Ck all i j:=
 qb all [] (by simp) (fun j i h=>by cases j<;>simp [nX] at h) j i h

theorem I8 {l:List Nat} {n:Nat}:br l n=false→n∉l:=by
 induction l with
 |nil=>simp
 | cons x l ih=>
  intro h
  simp only [br,Bool.or_eq_false_iff] at h
  have h2:=ih h.2
  intro hm
  rcases List.mem_cons.1 hm with e|e
  ·subst e
   rw [Nat.beq_refl] at h
   simp at h
  ·exact h2 e

structure Pair (E:Env) (all:List Oper) (i:Nat) (x:Oper) (j:Nat) (y:Oper):Prop where
 nb:Q2 (ae all []) i j=false
 q:(aU E x.op≠some 4∧aU E y.op≠some 4∧(aU E x.op=some 0∨aU E y.op=some 0∨(bn E all i x=true∧bn E all j y=true)∨(bn E all i x=true∧aU E y.op=some 5)∨(aU E x.op=some 5∧aU E y.op=some 1)∨(aU E x.op=some 1∧aU E y.op=some 2)∨(aU E x.op=some 2∧aU E y.op=some 1)))∨
  (aU E x.op=some 4∧(aU E y.op=some 0∨aU E y.op=some 1))∨((aU E x.op=some 0∨aU E x.op=some 1)∧aU E y.op=some 4)∨aU E y.op=some 6
 a1:∀d,x.dst=some d→d∉looks all y
 a2:∀d,x.dst=some d→y.dst≠some d
 a3:∀d,y.dst=some d→d∉looks all x

theorem I4 {E:Env} {o:Oper} (h:isT E o=true):aU E o.op=some 0:=by
 unfold isT at h
 split at h
 ·assumption
 ·cases h
theorem I5 {E:Env} {o:Oper} (h:isF E o=true):aU E o.op=some 5:=by
 unfold isF at h
 split at h
 ·assumption
 ·cases h
theorem zF {E:Env} {o:Oper} (h:Mj E o=true):aU E o.op=some 1:=by
 unfold Mj at h
 split at h
 ·assumption
 ·cases h
theorem I6 {E:Env} {o:Oper} (h:is2 E o=true):aU E o.op=some 2:=by
 unfold is2 at h
 split at h
 ·assumption
 ·cases h
theorem Bf {E:Env} {o:Oper} (h:I7 E o=true):aU E o.op=some 0∨aU E o.op=some 1:=by
 unfold I7 at h
 split at h
 ·exact .inl (by assumption)
 ·exact .inr (by assumption)
 ·cases h
theorem Tn {E:Env} {o:Oper} (h:is6 E o=true):aU E o.op=some 6:=by
 unfold is6 at h
 split at h
 ·assumption
 ·cases h
theorem wv {E:Env} {o:Oper} (h:eg E o=true):aU E o.op=some 4:=by
 unfold eg at h
 split at h
 ·assumption
 ·cases h
theorem wz {E:Env} {o:Oper} (h:eg E o=false):aU E o.op≠some 4:=fun h'=>by simp [eg,h'] at h

theorem Dm {E:Env} {all:List Oper} {i j:Nat} {x y:Oper} (h:qQ E all (ae all []) i x j y=true):Ck all i j∨Pair E all i x j y:=by
 unfold qQ at h
 cases hb:Q2 (ae all []) i j with
 |true=>exact .inl (Uj hb)
 | false=>
  rw [hb] at h
  simp only [Bool.false_or,Bool.and_eq_true,Bool.or_eq_true,Bool.not_eq_true'] at h
  obtain⟨h3,h4⟩:=h
  unfold Kr at h4
  rw [Bool.and_eq_true] at h4
  obtain⟨h4,h5⟩:=h4
  refine .inr ⟨hb,?_,fun d hx=> ?_,fun d hx hy=> ?_,fun d hy=> ?_⟩
  ·rcases h3 with((⟨⟨h1,h2⟩,h3⟩|h3)|h3)|h3
   ·refine .inl ⟨wz h1,wz h2,?_⟩
    rcases h3 with(((((h3|h3)|h3)|h3)|h3)|h3)|h3
    ·exact .inl (I4 h3)
    ·exact .inr (.inl (I4 h3))
    ·exact .inr (.inr (.inl h3))
    ·exact .inr (.inr (.inr (.inl ⟨h3.1,I5 h3.2⟩)))
    ·exact .inr (.inr (.inr (.inr (.inl ⟨I5 h3.1,zF h3.2⟩))))
    ·exact .inr (.inr (.inr (.inr (.inr (.inl ⟨zF h3.1,I6 h3.2⟩)))))
    ·exact .inr (.inr (.inr (.inr (.inr (.inr ⟨I6 h3.1,zF h3.2⟩)))))
   ·exact .inr (.inl ⟨wv h3.1,Bf h3.2⟩)
   ·exact .inr (.inr (.inl ⟨Bf h3.1,wv h3.2⟩))
   ·exact .inr (.inr (.inr (Tn h3)))
  ·rw [hx] at h4
   simp only [Bool.and_eq_true,Bool.not_eq_true'] at h4
   exact I8 h4.1
  ·rw [hx,hy] at h4
   simp only [Bool.and_eq_true,Bool.not_eq_true'] at h4
   rw [Nat.beq_refl] at h4
   simp at h4
  ·rw [hy] at h5
   simp only [Bool.not_eq_true'] at h5
   exact I8 h5

theorem sX {E:Env} {all:List Oper} {ms:List Nat} {j:Nat} {y:Oper}:∀(l:List Oper) (i0:Nat),(∀k,l[k]? =all[i0+k]?)→tr E all ms j y i0 l=true→∀i x,i0≤i→i<j→all[i]? =some x→qQ E all ms i x j y=true
 |[],i0,hl,_,i,x,h1,h2,hx=>by
  have:=hl (i-i0)
  rw [show i0+(i-i0)=i by omega,hx] at this
  simp at this
 | z::l,i0,hl,h,i,x,h1,h2,hx=>by
  unfold tr at h
  cases hb:Nat.beq i0 j with
  |true=>have:=aa hb;omega
  | false=>
   rw [hb] at h
   simp only [cond_false,Bool.and_eq_true] at h
   by_cases hi:i=i0
   ·subst hi
    have:all[i]? =some z:=by simpa using(hl 0).symm
    have:x=z:=Option.some.inj (hx.symm.trans this)
    subst this
    exact h.1
   ·exact sX l (i0+1) (fun k=>by have:=hl (k+1);simpa [Nat.add_assoc,Nat.add_comm 1 k] using this) h.2 i x (by omega) h2 hx

theorem rM {j:Nat}:∀{l:List Edge},pT j l=true→∀e∈l,Region.binds .any e=true→e.on<j
 | e::l,h,e',he=>by
  simp only [pT,Bool.and_eq_true] at h
  rcases List.mem_cons.1 he with h'|h'
  ·subst h'
   intro hb
   have:=h.1
   rw [hb] at this
   simpa [Nat.blt_eq] using this
  ·exact rM h.2 e' h'

theorem sW {E:Env} {all:List Oper} {ms:List Nat}:∀(l:List Oper) (j0:Nat),(∀k,l[k]? =all[j0+k]?)→tq E all ms j0 l=true→∀j y,j0≤j→all[j]? =some y→
  aU E y.op≠none∧(∀e∈y.after,Region.binds .any e=true→e.on<j)∧∀i x,i<j→all[i]? =some x→qQ E all ms i x j y=true
 |[],j0,hl,_,j,y,h1,hy=>by
  have:=hl (j-j0)
  rw [show j0+(j-j0)=j by omega,hy] at this
  simp at this
 | z::l,j0,hl,h,j,y,h1,hy=>by
  unfold tq at h
  simp only [Bool.and_eq_true] at h
  obtain⟨⟨⟨ha,hb⟩,hc⟩,hd⟩:=h
  by_cases hj:j=j0
  ·subst hj
   have:all[j]? =some z:=by simpa using(hl 0).symm
   have:y=z:=Option.some.inj (hy.symm.trans this)
   subst this
   exact⟨fun hn=>by rw [hn] at ha;simp at ha,fun e he=>rM hb e (by simpa using he),fun i x hi hx=>sX all 0 (by simp) hc i x (by omega) hi hx⟩
  ·exact sW l (j0+1) (fun k=>by have:=hl (k+1);simpa [Nat.add_assoc,Nat.add_comm 1 k] using this) hd j y (by omega) hy
end Go.Proofs.YtogipicegdbhdaaDoor.Vc

/- What the check of a drawn region gives, and the trace of its walk. -/
import Derived.Test.YtlmegkgkipjgbaaDoorVc6
set_option linter.unusedVariables false
set_option linter.unusedSimpArgs false
namespace Go.Proofs.YtlmegkgkipjgbaaDoor.Vc
open Go Go.RowKit
def putV (σ:List V) (d:Option Nat) (v:V):List V:=match d with|none=>σ|some d=>sets σ d v
theorem setDst_eq (σ:List V) (d:Option Nat) (v:V) (K:List V→Prop):setDst σ d v K↔K (putV σ d v):=by
 cases d with
 |none=>exact Iff.rfl
 |some d=>exact(normV_eq v fun v=>forceL (sets σ d v) K).trans (forceL_eq _ _)

theorem fresh_ext {E:Env} {o:Op} (h:clsOp E o=some 5) {σ:List V} {H:List Blk} {K:V→List V→List Blk→Prop} (hk:aop E σ H o K):aop E σ H o fun v σ' H'=>K v σ' H'∧∃bs,H'=H++bs:=by
 cases o<;>first|(simp [clsOp] at h;done)|skip
 case alloc T=>
  unfold aop at hk ⊢
  dsimp only at hk ⊢
  unfold aalloc at hk ⊢
  generalize lk E.ty T=r at hk ⊢
  rcases r with _|t
  ·exact hk.elim
  ·cases t<;>dsimp only at hk ⊢<;>obtain⟨hb,hk⟩:=bif_ok hk<;>rw [hb]<;>simp only [cond_true,forceL_eq] at hk ⊢<;>exact⟨hk,_,rfl⟩
 case box T x=>
  unfold aop at hk ⊢
  dsimp only at hk ⊢
  simp only [forceV_eq] at hk ⊢
  unfold abox at hk ⊢
  generalize ev E σ x=v at hk ⊢
  generalize lk E.ty T=r at hk ⊢
  rcases r with _|t
  ·exact hk.elim
  ·have other:(bif v.isCell&&Nat.beq t.size 1 then forceL (H++ [.cells [v]]) (K (.ptr H.length 1 0 0) σ) else False)→(bif v.isCell&&Nat.beq t.size 1 then forceL (H++ [.cells [v]]) (fun H'=>K (.ptr H.length 1 0 0) σ H'∧∃bs,H'=H++bs) else False):=fun hk=>by
    obtain⟨hb,hk⟩:=bif_ok hk
    rw [hb]
    simp only [cond_true,forceL_eq] at hk ⊢
    exact⟨hk,_,rfl⟩
   have agg:∀cs,(bif Nat.blt 0 t.size&&allCells cs&&Nat.beq cs.length t.size then forceL (H++ [.cells cs]) (K (.ptr H.length 1 0 0) σ) else False)→(bif Nat.blt 0 t.size&&allCells cs&&Nat.beq cs.length t.size then forceL (H++ [.cells cs]) (fun H'=>K (.ptr H.length 1 0 0) σ H'∧∃bs,H'=H++bs) else False):=fun cs hk=>by
    obtain⟨hb,hk⟩:=bif_ok hk
    rw [hb]
    simp only [cond_true,forceL_eq] at hk ⊢
    exact⟨hk,_,rfl⟩
   cases t<;>dsimp only at hk ⊢<;>first
    |(cases v<;>first|exact agg _ hk|exact other hk)
    |skip
   obtain⟨hb,hk⟩:=bif_ok hk
   rw [hb]
   simp only [cond_true]
   unfold asArr at hk ⊢
   split at hk<;>first|exact hk.elim|skip
   rw [castK_iff] at hk ⊢
   obtain⟨e,h1,h2⟩:=hk
   refine⟨e,h1,?_⟩
   simp only [forceL_eq] at h2 ⊢
   exact⟨h2,_,rfl⟩
 case buildSlice T n ps=>
  unfold aop at hk ⊢
  dsimp only at hk ⊢
  obtain⟨hb,hk⟩:=bif_ok hk
  rw [hb]
  simp only [cond_true]
  have hp:Point (fun K:List V→Prop=>evs E σ (ps.toList.map (·.2)) K):= .evs (f:=fun vs K=>K vs) fun vs=> .ret vs
  obtain⟨vs,h1,h2⟩:=hp _ hk
  refine h2 _ ?_
  unfold abuildSlice at h1 ⊢
  generalize lk E.ty T=r at h1 ⊢
  rcases r with _|t
  ·exact h1.elim
  ·cases t<;>first|exact h1.elim|skip
   rename_i t
   have other:(bif Nat.ble (vs.length*t.size) 16777216 then asEls t vs fun f xs=>forceL (H++ [.row (t.flat||f) t xs]) (K (.own t H.length) σ) else False)→(bif Nat.ble (vs.length*t.size) 16777216 then asEls t vs fun f xs=>forceL (H++ [.row (t.flat||f) t xs]) (fun H'=>K (.own t H.length) σ H'∧∃bs,H'=H++bs) else False):=fun hk=>by
    obtain⟨hb,hk⟩:=bif_ok hk
    rw [hb]
    simp only [cond_true]
    have hp:Point (fun K:Bool×List t.D→Prop=>asEls t vs fun f xs=>K (f,xs)):= .asEls (f:=fun f xs K=>K (f,xs)) fun f xs=> .ret _
    obtain⟨⟨f,xs⟩,h3,h4⟩:=hp (fun p=>forceL (H++ [.row (t.flat||p.1) t p.2]) (K (.own t H.length) σ)) hk
    refine h4 (fun p=>forceL (H++ [.row (t.flat||p.1) t p.2]) (fun H'=>K (.own t H.length) σ H'∧∃bs,H'=H++bs)) ?_
    simp only [forceL_eq] at h3 ⊢
    exact⟨h3,_,rfl⟩
   cases t<;>first|exact other h1|skip
   dsimp only at h1 ⊢
   cases hfz:(inL E.frz 1000002&&allData vs) with
   |true=>rw [hfz] at h1;exact other h1
   |false=>
   rw [hfz] at h1
   simp only [cond_false] at h1 ⊢
   obtain⟨hb,h1⟩:=bif_ok h1
   rw [hb]
   simp only [cond_true,forceL_eq] at h1 ⊢
   exact⟨h1,_,rfl⟩
 case makeSlice T l c=>
  unfold aop at hk ⊢
  dsimp only at hk ⊢
  split at hk<;>first|exact hk.elim|skip
  revert hk
  cases (inL E.frz 1000000&&isSlB _) with
  |true=>
   intro hk
   refine⟨hk.1,?_⟩
   have hk:=hk.2
   simp only [forceL_eq] at hk ⊢
   exact⟨hk,_,rfl⟩
  |false=>
   intro hk
   refine⟨hk.1,?_⟩
   have hk:=hk.2
   simp only [forceL_eq] at hk ⊢
   exact⟨hk,_,rfl⟩
 case convert S T x=>
  exfalso
  simp only [clsOp] at h
  split at h<;>simp at h
 case slice T x lo hi mx=>
  exfalso
  simp only [clsOp] at h
  split at h<;>simp at h
 case binOp op T x y yT=>
  exfalso
  simp only [clsOp] at h
  split at h<;>simp at h
 case call c=>
  obtain⟨callee,args,tys⟩:=c
  cases callee<;>first|(simp [clsOp] at h;done)|skip
  rename_i b
  cases b<;>simp [clsOp] at h

def Else (E:Env) (o:Op) (c r:Nat) (qt:Prop) (σ:List V) (H H1 H2 H3:List Blk):Prop:=
 (2≤c∧c≤5∧∃F,Fok F H∧H2=fillH F H∧H3=fillH F H1)∨(c=0∧H3=H2)∨(c=1∧Agr1 E o σ H H2∧H3=H2)∨(c=2∧qt∧HLe H H2∧H3=H2)∨
  (c=6∧getB H2 r= .dead∧r<H2.length∧∀z,H1=setB H r z→H3=setB H2 r z)

structure Turned (E:Env) (o:Op) (c r:Nat) (σ:List V) (H:List Blk) (kd:Option Nat) (H1:List Blk):Prop where
 kid:∀id,kd=some id→c=4∧kidOf E σ o=some id
 h1:c≤1→H1=H
 h2:c=2→∃bs,H1=H++bs
 h5:c=5→∃bs,H1=H++bs
 h4:c=4→∀i,i<H.length→(∀id,kidOf E σ o=some id→killB id (getB H i)=getB H i)→(∀id,kidOf E σ o=some id→i≠id)→getB H1 i=getB H i
 h6:c=6→∃z,H1=setB H r z∧∀k,killB k z=z
 len:c=3∨c=4→H.length≤H1.length∧∀i,i<H.length→getB H i= .dead→getB H1 i= .dead
theorem setB_self:∀(H:List Blk) (r:Nat) (b:Blk),getB H r=b→setB H r b=H
 |[],_,_,_=>rfl
 |x::H,0,b,h=>by rw [show x=b from h];rfl
 |x::H,r+1,b,h=>by rw [setB,setB_self H r b h]
theorem Turned.none {E:Env} {o:Op} {c r:Nat} {σ:List V} {H:List Blk} (h6:c=6→getB H r= .dead):Turned E o c r σ H none H:=
 ⟨fun id e=>(by cases e),fun _=>rfl,fun _=>⟨[],by simp⟩,fun _=>⟨[],by simp⟩,fun _ _ _ _ _=>rfl,fun h=>⟨.dead,(setB_self H r _ (h6 h)).symm,fun _=>rfl⟩,fun _=>⟨Nat.le_refl _,fun _ _ h=>h⟩⟩
theorem store_len {E:Env} {H:List Blk} {T:TypeId} {p v:V} {K:List Blk→Prop} (h:astore E H T p v K):astore E H T p v fun H1=>K H1∧(H1.length=H.length∧∀i,getB H i= .dead→getB H1 i= .dead):=by
 unfold astore at h ⊢
 generalize lk E.ty T=r at h ⊢
 rcases r with _|tT
 ·cases p<;>exact h.elim
 cases p<;>first|exact h.elim|skip
 rename_i id z i o
 dsimp only at h ⊢
 cases hb:getB H id with
 |dead=>rw [hb] at h;exact h.elim
 |imap fr t es=>rw [hb] at h;exact h.elim
 |mit m0 n0 s0 l0=>rw [hb] at h;first|exact h.elim|(cases m0<;>exact h.elim)
 | row fr t xs=>
  rw [hb] at h
  dsimp only at h ⊢
  have s1:∀v,(setF t (xs.getD i t.dflt) o v fun x=>(o=o∧tT.size=1)∧forceL (setB H id (.row fr t (xs.set i x))) K)→(setF t (xs.getD i t.dflt) o v fun x=>(o=o∧tT.size=1)∧forceL (setB H id (.row fr t (xs.set i x))) fun H1=>K H1∧(H1.length=H.length∧∀i,getB H i= .dead→getB H1 i= .dead)):=fun v h=>
   (Point.setF (t:=t) (x:=xs.getD i t.dflt) (o:=o) (v:=v) (f:=fun x (K:t.D→Prop)=>(o=o∧tT.size=1)∧K x) fun x=> .and (.ret x)).up (K:=fun x=>forceL (setB H id (.row fr t (xs.set i x))) K) (K2:=fun x=>forceL (setB H id (.row fr t (xs.set i x))) fun H1=>K H1∧(H1.length=H.length∧∀i,getB H i= .dead→getB H1 i= .dead)) h
    fun x hx=>(forceL_eq _ _).2 ⟨(forceL_eq _ _).1 hx,length_setB _ _ _,fun i hd=>by rw [getB_setB,if_neg (fun e=>by rw [e.1,hb] at hd;cases hd)];exact hd⟩
  have s2:∀v,(asEl t v fun f x=>((fr=true→f=true)∧o=0∧tT.size=t.size)∧forceL (setB H id (.row fr t (xs.set i x))) K)→(asEl t v fun f x=>((fr=true→f=true)∧o=0∧tT.size=t.size)∧forceL (setB H id (.row fr t (xs.set i x))) fun H1=>K H1∧(H1.length=H.length∧∀i,getB H i= .dead→getB H1 i= .dead)):=fun v h=>
   (Point.asEl (t:=t) (v:=v) (f:=fun f x (K:t.D→Prop)=>((fr=true→f=true)∧o=0∧tT.size=t.size)∧K x) fun _ x=> .and (.ret x)).up (K:=fun x=>forceL (setB H id (.row fr t (xs.set i x))) K) (K2:=fun x=>forceL (setB H id (.row fr t (xs.set i x))) fun H1=>K H1∧(H1.length=H.length∧∀i,getB H i= .dead→getB H1 i= .dead)) h
    fun x hx=>(forceL_eq _ _).2 ⟨(forceL_eq _ _).1 hx,length_setB _ _ _,fun i hd=>by rw [getB_setB,if_neg (fun e=>by rw [e.1,hb] at hd;cases hd)];exact hd⟩
  have s3:∀v,(asArr t v fun n f ys=>(t.flat=true∧i=0∧o=0∧ys.length=xs.length∧tT.size=n*t.size)∧forceL (setB H id (.row fr t ys)) K)→(asArr t v fun n f ys=>(t.flat=true∧i=0∧o=0∧ys.length=xs.length∧tT.size=n*t.size)∧forceL (setB H id (.row fr t ys)) fun H1=>K H1∧(H1.length=H.length∧∀i,getB H i= .dead→getB H1 i= .dead)):=fun v h=>
   (Point.asArr (t:=t) (v:=v) (f:=fun n f ys (K:List t.D→Prop)=>(t.flat=true∧i=0∧o=0∧ys.length=xs.length∧tT.size=n*t.size)∧K ys) fun _ _ x=> .and (.ret x)).up (K:=fun ys=>forceL (setB H id (.row fr t ys)) K) (K2:=fun ys=>forceL (setB H id (.row fr t ys)) fun H1=>K H1∧(H1.length=H.length∧∀i,getB H i= .dead→getB H1 i= .dead)) h
    fun x hx=>(forceL_eq _ _).2 ⟨(forceL_eq _ _).1 hx,length_setB _ _ _,fun i hd=>by rw [getB_setB,if_neg (fun e=>by rw [e.1,hb] at hd;cases hd)];exact hd⟩
  cases v<;>first|exact s1 _ h|exact s2 _ h|exact s3 _ h
 |cells cs=>
  rw [hb] at h
  dsimp only at h ⊢
  cases v<;>dsimp only at h ⊢<;>simp only [forceL_eq] at h ⊢<;>exact⟨h.1,h.2,length_setB _ _ _,fun i hd=>by rw [getB_setB,if_neg (fun e=>by rw [e.1,hb] at hd;cases hd)];exact hd⟩
theorem store_set {E:Env} {H:List Blk} {T:TypeId} {p v:V} {K:List Blk→Prop} (h:astore E H T p v K):astore E H T p v fun H1=>K H1∧∃id z i o,p= .ptr id z i o∧∃b,H1=setB H id b:=by
 unfold astore at h ⊢
 generalize lk E.ty T=r at h ⊢
 rcases r with _|tT
 ·cases p<;>exact h.elim
 cases p<;>first|exact h.elim|skip
 rename_i id z i o
 dsimp only at h ⊢
 cases hb:getB H id with
 |dead=>rw [hb] at h;exact h.elim
 |imap fr t es=>rw [hb] at h;exact h.elim
 |mit m0 n0 s0 l0=>rw [hb] at h;first|exact h.elim|(cases m0<;>exact h.elim)
 | row fr t xs=>
  rw [hb] at h
  dsimp only at h ⊢
  have s1:∀v,(setF t (xs.getD i t.dflt) o v fun x=>(o=o∧tT.size=1)∧forceL (setB H id (.row fr t (xs.set i x))) K)→(setF t (xs.getD i t.dflt) o v fun x=>(o=o∧tT.size=1)∧forceL (setB H id (.row fr t (xs.set i x))) fun H1=>K H1∧∃id' z' i' o',V.ptr id z i o= .ptr id' z' i' o'∧∃b,H1=setB H id' b):=fun v h=>
   (Point.setF (t:=t) (x:=xs.getD i t.dflt) (o:=o) (v:=v) (f:=fun x (K:t.D→Prop)=>(o=o∧tT.size=1)∧K x) fun x=> .and (.ret x)).up (K:=fun x=>forceL (setB H id (.row fr t (xs.set i x))) K) (K2:=fun x=>forceL (setB H id (.row fr t (xs.set i x))) fun H1=>K H1∧∃id' z' i' o',V.ptr id z i o= .ptr id' z' i' o'∧∃b,H1=setB H id' b) h
    fun x hx=>(forceL_eq _ _).2 ⟨(forceL_eq _ _).1 hx,id,z,_,_,rfl,_,rfl⟩
  have s2:∀v,(asEl t v fun f x=>((fr=true→f=true)∧o=0∧tT.size=t.size)∧forceL (setB H id (.row fr t (xs.set i x))) K)→(asEl t v fun f x=>((fr=true→f=true)∧o=0∧tT.size=t.size)∧forceL (setB H id (.row fr t (xs.set i x))) fun H1=>K H1∧∃id' z' i' o',V.ptr id z i o= .ptr id' z' i' o'∧∃b,H1=setB H id' b):=fun v h=>
   (Point.asEl (t:=t) (v:=v) (f:=fun f x (K:t.D→Prop)=>((fr=true→f=true)∧o=0∧tT.size=t.size)∧K x) fun _ x=> .and (.ret x)).up (K:=fun x=>forceL (setB H id (.row fr t (xs.set i x))) K) (K2:=fun x=>forceL (setB H id (.row fr t (xs.set i x))) fun H1=>K H1∧∃id' z' i' o',V.ptr id z i o= .ptr id' z' i' o'∧∃b,H1=setB H id' b) h
    fun x hx=>(forceL_eq _ _).2 ⟨(forceL_eq _ _).1 hx,id,z,_,_,rfl,_,rfl⟩
  have s3:∀v,(asArr t v fun n f ys=>(t.flat=true∧i=0∧o=0∧ys.length=xs.length∧tT.size=n*t.size)∧forceL (setB H id (.row fr t ys)) K)→(asArr t v fun n f ys=>(t.flat=true∧i=0∧o=0∧ys.length=xs.length∧tT.size=n*t.size)∧forceL (setB H id (.row fr t ys)) fun H1=>K H1∧∃id' z' i' o',V.ptr id z i o= .ptr id' z' i' o'∧∃b,H1=setB H id' b):=fun v h=>
   (Point.asArr (t:=t) (v:=v) (f:=fun n f ys (K:List t.D→Prop)=>(t.flat=true∧i=0∧o=0∧ys.length=xs.length∧tT.size=n*t.size)∧K ys) fun _ _ x=> .and (.ret x)).up (K:=fun ys=>forceL (setB H id (.row fr t ys)) K) (K2:=fun ys=>forceL (setB H id (.row fr t ys)) fun H1=>K H1∧∃id' z' i' o',V.ptr id z i o= .ptr id' z' i' o'∧∃b,H1=setB H id' b) h
    fun x hx=>(forceL_eq _ _).2 ⟨(forceL_eq _ _).1 hx,id,z,_,_,rfl,_,rfl⟩
  cases v<;>first|exact s1 _ h|exact s2 _ h|exact s3 _ h
 |cells cs=>
  rw [hb] at h
  dsimp only at h ⊢
  cases v<;>dsimp only at h ⊢<;>simp only [forceL_eq] at h ⊢<;>exact⟨h.1,h.2,id,z,_,_,rfl,_,rfl⟩
theorem mapUpdate_len {E:Env} {H:List Blk} {T:TypeId} {m k v:V} {K:List Blk→Prop} (h:amapUpdate E H T m k v K):amapUpdate E H T m k v fun H1=>K H1∧(H1.length=H.length∧∀i,getB H i= .dead→getB H1 i= .dead):=by
 unfold amapUpdate at h ⊢
 split at h<;>first|exact h.elim|skip
 rename_i t t0 id n hT
 split at h<;>first|exact h.elim|skip
 rename_i fr t' es hb
 exact(Point.asEl (t:=t') (v:=v) (f:=fun f x (K:Bool×t'.D→Prop)=>(t'=t∧es.length≤1000000000)∧K (f,x)) fun _ x=> .and (.ret _)).up (K:=fun p=>forceL (setB H id (.imap (fr&&p.1) t' (mput es n p.2))) K) (K2:=fun p=>forceL (setB H id (.imap (fr&&p.1) t' (mput es n p.2))) fun H1=>K H1∧(H1.length=H.length∧∀i,getB H i= .dead→getB H1 i= .dead)) h
  fun p hx=>(forceL_eq _ _).2 ⟨(forceL_eq _ _).1 hx,length_setB _ _ _,fun i hd=>by rw [getB_setB,if_neg (fun e=>by rw [e.1,hb] at hd;cases hd)];exact hd⟩
theorem st_pt {E:Env} (hd:DetE E) {o:Op} {r:Nat} (hal:isAlO E o=false) (hst:stE E o=true) {σ:List V} {H:List Blk} {K:V→List V→List Blk→Prop} (h:(bif Nat.beq r 1&&isApp o then aopF E σ H o K else aop E σ H o K)):
  ∃v kd H1,K v (killO kd σ) H1∧Turned E o 4 r σ H kd H1∧
   ∀σ2 H2 H3 (K':V→List V→List Blk→Prop),Agree E o σ σ2→Else E o 4 r (H1=H∧v.noIds=true) σ H H1 H2 H3→K' v (killO kd σ2) H3→(bif Nat.beq r 1&&isApp o then aopF E σ2 H2 o K' else aop E σ2 H2 o K'):=by
 cases o<;>first|(simp [stE] at hst;done)|skip
 rename_i T p x
 have happ:(Nat.beq r 1&&isApp (Op.store T p x))=false:=by simp [isApp]
 simp only [happ,cond_false] at h ⊢
 have hc:clsOp E (Op.store T p x)=some 3:=rfl
 have hself:Agree E (Op.store T p x) σ σ:=fun _ _=>rfl
 obtain⟨F,hF,he⟩:=cls3 (.inl hc) σ H
 have h:aop E σ H (.store T p x) fun v σ' H'=>K v σ' H'∧(H.length≤H'.length∧∀i,i<H.length→getB H i= .dead→getB H' i= .dead)∧∀i,(∀id,kidOf E σ (.store T p x)=some id→i≠id)→getB H' i=getB H i:=by
  unfold aop at h ⊢
  dsimp only at h ⊢
  simp only [forceV_eq] at h ⊢
  have hp:Point (fun K:List Blk→Prop=>astore E H T (ev E σ p) (ev E σ x) K):= .astore
  refine hp.up (store_set (store_len h)) fun H1 ⟨⟨a,b,c⟩,id,z,i,o,e,b',e'⟩=>⟨a,⟨Nat.le_of_eq b.symm,fun i _ hd=>c i hd⟩,fun i hi=> ?_⟩
  rw [e',getB_setB,if_neg]
  rintro⟨g,_⟩
  exact hi id (by simp only [kidOf];rw [e]) g
 rw [he σ _ hself] at h
 obtain⟨⟨v,H1⟩,h1,h2⟩:=hF _ h
 refine⟨v,none,H1,h1.1,⟨fun id e=>(by cases e),by simp,by simp,by simp,fun _ i hi _ hne=>h1.2.2 i hne,by simp,fun _=>h1.2.1⟩,fun σ2 H2 H3 K' ha hel hk=> ?_⟩
 rcases hel with⟨_,_,F2,g1,g2,g3⟩|⟨h,_⟩|⟨h,_⟩|⟨h,_⟩|⟨h,_⟩<;>try omega
 subst g2 g3
 exact op_fill hd hc (by omega) hal g1 (K:=fun v' σ' H'=>v'=v∧σ'=σ2∧H'=H1) (fun v' σ' H' ⟨e1,e2,e3⟩=>by rw [e1,e2,e3];exact hk) (by rw [he σ2 _ ha];exact h2 _ ⟨rfl,rfl,rfl⟩)
theorem op_pt {E:Env} (hd:DetE E) {o:Op} {c r:Nat} (hc:clsX E o=some c) {σ:List V} {H:List Blk} {K:V→List V→List Blk→Prop} (h:aopX E r σ H o K):
  ∃v kd H1,K v (killO kd σ) H1∧Turned E o c r σ H kd H1∧
   ∀σ2 H2 H3 (K':V→List V→List Blk→Prop),Agree E o σ σ2→Else E o c r (H1=H∧v.noIds=true) σ H H1 H2 H3→K' v (killO kd σ2) H3→aopX E r σ2 H2 o K':=by
 have hself:Agree E o σ σ:=fun _ _=>rfl
 unfold clsX at hc
 unfold aopX at h ⊢
 cases hv:virtE E o with
 | true=>
  rw [hv] at h hc
  simp only [cond_true,Option.some.injEq] at h hc ⊢
  subst hc
  obtain⟨v,h1,h2⟩:=virt_pt h
  refine⟨v,none,H,h1,.none (by simp),fun σ2 H2 H3 K' ha hel hk=>h2 σ2 H2 K' ha ?_⟩
  have e:H3=H2:=by
   rcases hel with⟨h,_⟩|⟨_,h⟩|⟨h,_⟩|⟨h,_⟩|⟨h,_⟩<;>first|omega|exact h
  rw [←e];exact hk
 |false=>
 cases hal:isAlO E o with
 |true=>
  rw [hv,hal] at h hc
  simp only [cond_true,cond_false,Option.some.injEq] at h hc ⊢
  subst hc
  obtain⟨v,z,h1,h2,h3⟩:=aopA_pt h
  refine⟨v,none,_,h1,⟨fun id e=>(by cases e),by simp,by simp,by simp,by simp,fun _=>⟨z,rfl,h2⟩,by simp⟩,fun σ2 H2 H3 K' ha hel hk=> ?_⟩
  rcases hel with⟨_,h,_⟩|⟨h,_⟩|⟨h,_⟩|⟨h,_⟩|⟨_,g1,g2,g3⟩<;>try omega
  refine h3 σ2 H2 K' ha g1 g2 ?_
  rw [←g3 z rfl];exact hk
 |false=>
 rw [hv,hal] at hc
 rw [hv,hal] at h
 simp only [cond_false] at h hc ⊢
 cases hst:stE E o with
 |true=>
  rw [hst] at hc
  simp only [cond_true,Option.some.injEq] at hc
  subst hc
  exact st_pt hd hal hst h
 |false=>
 rw [hst] at hc
 simp only [cond_false] at hc
 have hle:=cls_lt hc
 cases hfz:(Nat.beq r 1&&isApp o) with
 | true=>
  rw [hfz] at h
  simp only [cond_true] at h ⊢
  rw [Bool.and_eq_true] at hfz
  have hc4:c=4:=by
   have:=isApp_cls (E:=E) hfz.2
   rw [hc] at this
   simpa using this
  subst hc4
  obtain⟨v,kd,H1,h1,h2,h3,h4,h5⟩:=appF_pt h
  refine⟨v,kd,H1,h1,⟨fun id e=>⟨rfl,h2 id e⟩,by simp,by simp,by simp,fun _ i g1 g2 g3=>h3 i g1 (fun id e=>g2 id (h2 id e)) (fun id e=>g3 id (h2 id e)),by simp,fun _=>h4⟩,fun σ2 H2 H3 K' ha hel hk=> ?_⟩
  rcases hel with⟨_,_,F2,g1,g2,g3⟩|⟨h,_⟩|⟨h,_⟩|⟨h,_⟩|⟨h,_⟩<;>try omega
  subst g2 g3
  exact h5 σ2 F2 K' ha g1 hk
 |false=>
 rw [hfz] at h
 simp only [cond_false] at h ⊢
 have up:2≤c→∀{v:V} {kd:Option Nat} {H1:List Blk},(∀σ2 (K':V→List V→List Blk→Prop),Agree E o σ σ2→K' v (killO kd σ2) H1→aop E σ2 H o K')→∀σ2 F (K':V→List V→List Blk→Prop),Agree E o σ σ2→Fok F H→K' v (killO kd σ2) (fillH F H1)→aop E σ2 (fillH F H) o K':=fun h2 {v kd H1} hrun σ2 F K' ha hF hk=>
  op_fill hd hc h2 hal hF (K:=fun v' σ' H'=>v'=v∧σ'=killO kd σ2∧H'=H1) (fun v' σ' H' ⟨e1,e2,e3⟩=>by rw [e1,e2,e3];exact hk) (hrun σ2 _ ha ⟨rfl,rfl,rfl⟩)
 rcases(by omega:c=0∨c=1∨c=2∨(c=3∨c=5)∨c=4) with h0|h0|h0|h0|h0
 ·subst h0
  obtain⟨F,hF,he⟩:=cls0 hc σ
  rw [he σ H K hself] at h
  obtain⟨v,h1,h2⟩:=hF _ h
  refine⟨v,none,H,h1,.none (by simp),fun σ2 H2 H3 K' ha hel hk=> ?_⟩
  have e:H3=H2:=by
   rcases hel with⟨h,_⟩|⟨_,h⟩|⟨h,_⟩|⟨h,_⟩|⟨h,_⟩<;>first|omega|exact h
  subst e
  rw [he σ2 H3 K' ha]
  exact h2 _ hk
 ·subst h0
  obtain⟨v,h1,h2⟩:=cls1b hc h
  refine⟨v,none,H,h1,.none (by simp),fun σ2 H2 H3 K' ha hel hk=> ?_⟩
  have e:H3=H2∧Agr1 E o σ H H2:=by
   rcases hel with⟨h,_⟩|⟨h,_⟩|⟨_,h,h'⟩|⟨h,_⟩|⟨h,_⟩<;>first|omega|exact⟨h',h⟩
  obtain⟨rfl,hr⟩:=e
  exact h2 σ2 _ K' ha hr hk
 ·subst h0
  have hh:=h
  obtain⟨F,_,hF,he⟩:=cls2 hd hc σ H
  rw [he σ K hself] at h
  obtain⟨v,bs,h1,h2⟩:=hF _ h
  refine⟨v,none,H++bs,h1,⟨fun id e=>(by cases e),by simp,fun _=>⟨bs,rfl⟩,by simp,by simp,by simp,by simp⟩,fun σ2 H2 H3 K' ha hel hk=> ?_⟩
  rcases hel with⟨_,_,F2,g1,g2,g3⟩|⟨h,_⟩|⟨h,_⟩|⟨_,⟨hq,hv⟩,hle,e⟩|⟨h,_⟩
  ·subst g2 g3
   exact up (by omega) (kd:=none) (fun σ3 K3 ha3 hk3=>by rw [he σ3 K3 ha3];exact h2 _ hk3) σ2 F2 K' ha g1 hk
  ·omega
  ·omega
  ·subst e
   have e1:aop E σ H o fun v' σ' H'=>v'=v∧H'=H:=by
    rw [he σ _ hself]
    exact h2 _ ⟨rfl,hq⟩
   exact cls2b hd hc hv e1 σ2 _ K' ha hle hk
  ·omega
 ·have hc':clsOp E o=some 3∨clsOp E o=some 5:=by rcases h0 with h0|h0<;>subst h0<;>simp [hc]
  have hh:∃(v:V) (H1:List Blk),K v σ H1∧(c=5→∃bs,H1=H++bs)∧(c=3→H.length≤H1.length∧∀i,i<H.length→getB H i= .dead→getB H1 i= .dead)∧∀σ2 (K':V→List V→List Blk→Prop),Agree E o σ σ2→K' v σ2 H1→aop E σ2 H o K':=by
   obtain⟨F,hF,he⟩:=cls3 hc' σ H
   rcases h0 with h0|h0
   ·subst h0
    have h:aop E σ H o fun v σ' H'=>K v σ' H'∧(H.length≤H'.length∧∀i,i<H.length→getB H i= .dead→getB H' i= .dead):=by
     cases o<;>first|(simp [clsOp] at hc;done)|skip
     case store T p x=>
      unfold aop at h ⊢
      dsimp only at h ⊢
      simp only [forceV_eq] at h ⊢
      have hp:Point (fun K:List Blk→Prop=>astore E H T (ev E σ p) (ev E σ x) K):= .astore
      exact hp.up (store_len h) fun H1 ⟨a,b,c⟩=>⟨a,Nat.le_of_eq b.symm,fun i _ hd=>c i hd⟩
     case mapUpdate T m k x=>
      unfold aop at h ⊢
      dsimp only at h ⊢
      simp only [forceV_eq] at h ⊢
      have hp:Point (fun K:List Blk→Prop=>amapUpdate E H T (ev E σ m) (ev E σ k) (ev E σ x) K):= .amapUpdate
      exact hp.up (mapUpdate_len h) fun H1 ⟨a,b,c⟩=>⟨a,Nat.le_of_eq b.symm,fun i _ hd=>c i hd⟩
     case convert S T x=>
      exfalso
      simp only [clsOp] at hc
      split at hc<;>simp at hc
     case slice T x lo hi mx=>
      exfalso
      simp only [clsOp] at hc
      split at hc<;>simp at hc
     case binOp op T x y yT=>
      exfalso
      simp only [clsOp] at hc
      split at hc<;>simp at hc
     case call c=>
      obtain⟨callee,args,tys⟩:=c
      cases callee<;>first|(simp [clsOp] at hc;done)|skip
      rename_i b
      cases b<;>simp [clsOp] at hc
    rw [he σ _ hself] at h
    obtain⟨⟨v,H1⟩,h1,h2⟩:=hF _ h
    exact⟨v,H1,h1.1,fun e=>by omega,fun _=>h1.2,fun σ2 K' ha hk=>by rw [he σ2 K' ha];exact h2 _ hk⟩
   ·subst h0
    have h:=fresh_ext hc h
    rw [he σ _ hself] at h
    obtain⟨⟨v,H1⟩,h1,h2⟩:=hF _ h
    exact⟨v,H1,h1.1,fun _=>h1.2,by simp,fun σ2 K' ha hk=>by rw [he σ2 K' ha];exact h2 _ hk⟩
  obtain⟨v,H1,h1,h5,hl3,h2⟩:=hh
  refine⟨v,none,H1,h1,⟨fun id e=>(by cases e),fun hx=>by omega,fun hx=>by omega,h5,fun hx=>by omega,fun hx=>by omega,fun hx=>by rcases hx with hx|hx;exact hl3 hx;omega⟩,fun σ2 H2 H3 K' ha hel hk=> ?_⟩
  rcases hel with⟨_,_,F2,g1,g2,g3⟩|⟨h,_⟩|⟨h,_⟩|⟨h,_⟩|⟨h,_⟩<;>try omega
  subst g2 g3
  exact up (by omega) (kd:=none) h2 σ2 F2 K' ha g1 hk
 ·subst h0
  obtain⟨v,kd,H1,h1,h2,h3,h4,h5⟩:=app_pt hc h
  refine⟨v,kd,H1,h1,⟨fun id e=>⟨rfl,h2 id e⟩,by simp,by simp,by simp,fun _ i g1 g2 g3=>h3 i g1 (fun id e=>g2 id (h2 id e)) (fun id e=>g3 id (h2 id e)),by simp,fun _=>h4⟩,fun σ2 H2 H3 K' ha hel hk=> ?_⟩
  rcases hel with⟨_,_,F2,g1,g2,g3⟩|⟨h,_⟩|⟨h,_⟩|⟨h,_⟩|⟨h,_⟩<;>try omega
  subst g2 g3
  exact up (by omega) h5 σ2 F2 K' ha g1 hk

theorem mem_tmpsOf {t:Nat}:∀{l:List Operand},Operand.tmp t∈l→t∈tmpsOf l
 | x::l,h=>by
  rcases List.mem_cons.1 h with h|h
  ·subst h;simp [tmpsOf]
  ·have:=mem_tmpsOf h
   cases x<;>simp [tmpsOf,this]
theorem Agree.of {E:Env} {all:List Oper} {o:Oper} {σ σ2:List V} (h:∀t∈looks all o,gets σ2 t=gets σ t):Agree E o.op σ σ2:=fun x hx=>by
 cases x with
 | tmp t=>
  refine h t ?_
  have:=mem_tmpsOf hx
  unfold looks
  split
  ·split
   ·exact List.mem_cons_of_mem _ this
   ·exact this
  ·exact this
 |const v=>cases v<;>rfl
 |_=>rfl

theorem oper_pt {E:Env} (hd:DetE E) {all:List Oper} {o:Oper} {c r:Nat} (hc:clsX E o.op=some c) {σ:List V} {H:List Blk} {K:V→List V→List Blk→Prop} {N:Prop} (hN:N→K .nope σ H) (h6:c=6→getB H r= .dead)
  (h:aguard all σ o.guard (aopX E r σ H o.op K) N):
  ∃v kd H1,K v (killO kd σ) H1∧Turned E o.op c r σ H kd H1∧
   ∀σ2 H2 H3 (K':V→List V→List Blk→Prop),(∀t∈looks all o,gets σ2 t=gets σ t)→Else E o.op c r (H1=H∧v.noIds=true) σ H H1 H2 H3→K' v (killO kd σ2) H3→
    aguard all σ2 o.guard (aopX E r σ2 H2 o.op K') (K' .nope σ2 H2):=by
 have yes:aopX E r σ H o.op K→∃v kd H1,K v (killO kd σ) H1∧Turned E o.op c r σ H kd H1∧
   ∀σ2 H2 H3 (K':V→List V→List Blk→Prop),(∀t∈looks all o,gets σ2 t=gets σ t)→Else E o.op c r (H1=H∧v.noIds=true) σ H H1 H2 H3→K' v (killO kd σ2) H3→aopX E r σ2 H2 o.op K':=fun h=>by
  obtain⟨v,kd,H1,h1,h2,h5⟩:=op_pt hd hc h
  exact⟨v,kd,H1,h1,h2,fun σ2 H2 H3 K' ha=>h5 σ2 H2 H3 K' (Agree.of ha)⟩
 have no:N→∃v kd H1,K v (killO kd σ) H1∧Turned E o.op c r σ H kd H1∧
   ∀σ2 H2 H3 (K':V→List V→List Blk→Prop),(∀t∈looks all o,gets σ2 t=gets σ t)→Else E o.op c r (H1=H∧v.noIds=true) σ H H1 H2 H3→K' v (killO kd σ2) H3→K' .nope σ2 H2:=fun h=>by
  refine⟨.nope,none,H,hN h,.none h6,fun σ2 H2 H3 K' _ hel hk=> ?_⟩
  have e2:H3=H2:=by
   rcases hel with⟨_,_,F,g1,g2,g3⟩|⟨_,h⟩|⟨_,_,h⟩|⟨_,_,_,h⟩|⟨h0,g1,g2,g3⟩
   ·rw [g2,g3]
   ·exact h
   ·exact h
   ·exact h
   ·rw [g3 .dead (setB_self H r _ (h6 h0)).symm,setB_self H2 r _ g1]
  rw [←e2];exact hk
 unfold aguard at h ⊢
 cases hg:o.guard with
 |none=>rw [hg] at h;exact yes h
 | some g=>
  obtain⟨j,w⟩:=g
  rw [hg] at h
  dsimp only at h ⊢
  cases hj:(all[j]?).bind (·.dst) with
  |none=>rw [hj] at h;exact h.elim
  | some t=>
   rw [hj] at h
   dsimp only at h ⊢
   have hlook:t∈looks all o:=by unfold looks;rw [hg];dsimp only;rw [hj];exact List.mem_cons_self
   generalize ht:gets σ t=vt at h
   have same:∀σ2,(∀t∈looks all o,gets σ2 t=gets σ t)→gets σ2 t=vt:=fun σ2 h1=>by rw [h1 t hlook,ht]
   cases vt<;>first|exact h.elim|skip
   case nope=>
    obtain⟨v,kd,H1,h1,h2,h5⟩:=no h
    exact⟨v,kd,H1,h1,h2,fun σ2 H2 H3 K' a c d=>by rw [same σ2 a];exact h5 σ2 H2 H3 K' a c d⟩
   case bt x=>
    cases x<;>cases w<;>dsimp only at h
    ·obtain⟨v,kd,H1,h1,h2,h5⟩:=yes h
     exact⟨v,kd,H1,h1,h2,fun σ2 H2 H3 K' a c d=>by rw [same σ2 a];exact h5 σ2 H2 H3 K' a c d⟩
    ·obtain⟨v,kd,H1,h1,h2,h5⟩:=no h
     exact⟨v,kd,H1,h1,h2,fun σ2 H2 H3 K' a c d=>by rw [same σ2 a];exact h5 σ2 H2 H3 K' a c d⟩
    ·obtain⟨v,kd,H1,h1,h2,h5⟩:=no h
     exact⟨v,kd,H1,h1,h2,fun σ2 H2 H3 K' a c d=>by rw [same σ2 a];exact h5 σ2 H2 H3 K' a c d⟩
    ·obtain⟨v,kd,H1,h1,h2,h5⟩:=yes h
     exact⟨v,kd,H1,h1,h2,fun σ2 H2 H3 K' a c d=>by rw [same σ2 a];exact h5 σ2 H2 H3 K' a c d⟩
   rename_i p
   by_cases hp:p<;>cases w<;>dsimp only at h
   ·obtain⟨v,kd,H1,h1,h2,h5⟩:=no (h.2 hp)
    exact⟨v,kd,H1,h1,h2,fun σ2 H2 H3 K' a c d=>by rw [same σ2 a];exact⟨fun hn=>absurd hp hn,fun _=>h5 σ2 H2 H3 K' a c d⟩⟩
   ·obtain⟨v,kd,H1,h1,h2,h5⟩:=yes (h.1 hp)
    exact⟨v,kd,H1,h1,h2,fun σ2 H2 H3 K' a c d=>by rw [same σ2 a];exact⟨fun _=>h5 σ2 H2 H3 K' a c d,fun hn=>absurd hp hn⟩⟩
   ·obtain⟨v,kd,H1,h1,h2,h5⟩:=yes (h.1 hp)
    exact⟨v,kd,H1,h1,h2,fun σ2 H2 H3 K' a c d=>by rw [same σ2 a];exact⟨fun _=>h5 σ2 H2 H3 K' a c d,fun hn=>absurd hn hp⟩⟩
   ·obtain⟨v,kd,H1,h1,h2,h5⟩:=no (h.2 hp)
    exact⟨v,kd,H1,h1,h2,fun σ2 H2 H3 K' a c d=>by rw [same σ2 a];exact⟨fun hn=>absurd hn hp,fun _=>h5 σ2 H2 H3 K' a c d⟩⟩

theorem apGo_true {E:Env} {ms:List Nat} {κ:List (Option (Nat×List Nat))} {k:Nat} {chk:Nat×List Nat→Bool} (h:∀i,chk i=true):∀(l:List Oper) (i:Nat),apGo E ms κ k chk i l=true
 |[],_=>rfl
 |o::l,i=>by
  rw [apGo,apGo_true h l (i+1),Bool.and_true]
  cases kapAt κ i with
  |none=>rfl
  |some id=>dsimp only;rw [h id,Bool.or_true]
theorem post01_nope (E:Env) (all:List Oper) (n:Rgn) (k:Nat):post01 E all n k .nope=true:=by
 unfold post01 apOk
 rw [apGo_true (chk:=fun q=> !V.mentions q.1 V.nope) (fun i=>rfl)]
 simp [V.older]
theorem postD_nope (E:Env) (all:List Oper) (n:Rgn) (k:Nat) (o:Oper) (H:List Blk):postD E all n k o H H .nope=true:=by
 unfold postD
 split<;>simp [V.noIds,post01_nope]
def LStep (E:Env) (all:List Oper) (n:Rgn) (b k:Nat) (σ:List V) (H:List Blk) (σ':List V) (H':List Blk):Prop:=∀o,all[k]? =some o→∃c v kd,clsX E o.op=some c∧σ'=putV (killO kd σ) o.dst v∧preD E all n (rOf E all b k o) k o σ H=true∧postD E all n k o H H' v=true∧Turned E o.op c (rOf E all b k o) σ H kd H'∧
 ∀σ2 H2 H3 (K':List V→List Blk→Prop),(∀t∈looks all o,gets σ2 t=gets σ t)→Else E o.op c (rOf E all b k o) (need E all k=true) σ H H' H2 H3→K' (putV (killO kd σ2) o.dst v) H3→aopAt E all (rOf E all b k o) o σ2 H2 K'

theorem quiet2 {E:Env} {all:List Oper} {n:Rgn} {k:Nat} {o:Oper} {H H':List Blk} {v:V} (hc:clsX E o.op=some 2) (hp:postD E all n k o H H' v=true) (hH:∃bs,H'=H++bs) (hn:need E all k=true):H'=H∧v.noIds=true:=by
 unfold postD at hp
 simp only [hc,hn] at hp
 simp only [Bool.not_true,Bool.false_or,Bool.and_eq_true] at hp
 obtain⟨bs,hbs⟩:=hH
 have:=beq_ok hp.1
 rw [hbs,List.length_append] at this
 have:bs= []:=List.eq_nil_of_length_eq_zero (by omega)
 exact⟨by rw [hbs,this,List.append_nil],hp.2⟩

theorem trace {E:Env} (hd:DetE E) {all:List Oper} {n:Rgn} {b:Nat}:∀(l:List Oper) (k:Nat) (σ:List V) (H:List Blk) (K:List V→List Blk→Prop),(∀j,l[j]? =all[k+j]?)→(∀o∈l,clsX E o.op≠none)→aopsD E all n b k l σ H K→
  ∃(S:Nat→List V) (Hs:Nat→List Blk),S k=σ∧Hs k=H∧K (S (k+l.length)) (Hs (k+l.length))∧∀j,k≤j→j<k+l.length→LStep E all n b j (S j) (Hs j) (S (j+1)) (Hs (j+1))
 |[],k,σ,H,K,_,_,h=>⟨fun _=>σ,fun _=>H,rfl,rfl,h,fun j h1 h2=>by simp at h2;omega⟩
 | o::l,k,σ,H,K,hl,hcl,h=>by
  have h0:all[k]? =some o:=by simpa using(hl 0).symm
  cases hc:clsX E o.op with
  |none=>exact absurd hc (hcl o (by simp))
  |some c=>
  have hstep:∃v kd H1,aopsD E all n b (k+1) l (putV (killO kd σ) o.dst v) H1 K∧LStep E all n b k σ H (putV (killO kd σ) o.dst v) H1:=by
   unfold aopsD at h
   obtain⟨hpre,h⟩:=bif_ok h
   obtain⟨v,kd,H1,h1,h2,h5⟩:=oper_pt hd hc (fun hn=>by
    rw [postD_nope]
    exact hn) (fun h6=>by
     subst h6
     unfold preD at hpre
     rw [hc] at hpre
     simp only [deadB,Bool.and_eq_true] at hpre
     have:=hpre.1.1
     split at this
     ·assumption
     ·cases this) h
   obtain⟨hpost,hk⟩:=bif_ok h1
   refine⟨v,kd,H1,(setDst_eq _ _ _ _).1 hk,fun o' ho'=> ?_⟩
   have:o'=o:=Option.some.inj (ho'.symm.trans h0)
   subst this
   refine⟨c,v,kd,hc,rfl,hpre,hpost,h2,fun σ2 H2 H3 K' a c' d=> ?_⟩
   unfold aopAt
   refine h5 σ2 H2 H3 (fun v σ H=>setDst σ o'.dst v fun σ=>K' σ H) a ?_ ?_
   ·rcases c' with c'|c'|c'|⟨c1,c2,c3⟩|c'
    ·exact .inl c'
    ·exact .inr (.inl c')
    ·exact .inr (.inr (.inl c'))
    ·subst c1
     exact .inr (.inr (.inr (.inl ⟨rfl,quiet2 hc hpost (h2.h2 rfl) c2,c3⟩)))
    ·exact .inr (.inr (.inr (.inr c')))
   ·exact(setDst_eq _ _ _ _).2 d
  obtain⟨v,kd,H1,hr,hs⟩:=hstep
  obtain⟨S,Hs,e1,e2,e3,e4⟩:=trace hd l (k+1) _ _ K (fun j=>by have:=hl (j+1);simpa [Nat.add_assoc,Nat.add_comm 1 j] using this) (fun o ho=>hcl o (by simp [ho])) hr
  refine⟨fun j=>if j≤k then σ else S j,fun j=>if j≤k then H else Hs j,by simp,by simp,?_,fun j h1 h2=> ?_⟩
  ·have:¬(k+(o::l).length≤k):=by simp
   dsimp only
   rw [if_neg this,if_neg this]
   have e:k+(o::l).length=k+1+l.length:=by simp;omega
   rw [e]
   exact e3
  ·by_cases hj:j=k
   ·subst hj
    simp only [Nat.le_refl,if_true]
    rw [if_neg (by omega),if_neg (by omega),e1,e2]
    exact hs
   ·dsimp only
    rw [if_neg (by omega),if_neg (by omega),if_neg (by omega),if_neg (by omega)]
    exact e4 j (by omega) (by simp at h2;omega)

def Clo (all:List Oper) (L:Nat→Prop):Prop:=∀j o,all[j]? =some o→L j→∀e∈o.after,Region.binds .any e=true→L e.on
def Bef (all:List Oper) (i j:Nat):Prop:=∀L,Clo all L→L j→L i

theorem edgeM_ok {all:List Oper} {acc:List Nat} (ha:∀j i,Nat.testBit (getN acc j) i=true→Bef all i j) {k:Nat} {o:Oper} (ho:all[k]? =some o):∀(l:List Edge),(∀e∈l,e∈o.after)→∀i,Nat.testBit (edgeM acc l) i=true→Bef all i k
 |[],_,i,h=>by simp [edgeM] at h
 | e::l,hl,i,h=>by
  unfold edgeM at h
  cases hb:Region.binds .any e with
  |false=>rw [hb] at h;exact edgeM_ok ha ho l (fun e he=>hl e (by simp [he])) i h
  | true=>
   rw [hb] at h
   simp only [cond_true] at h
   have h':Nat.testBit ((2^e.on|||getN acc e.on)|||edgeM acc l) i=true:=h
   rw [Nat.testBit_or,Nat.testBit_or,Bool.or_eq_true,Bool.or_eq_true] at h'
   have hon:Bef all e.on k:=fun L hL hk=>hL k o ho hk e (hl e (by simp)) hb
   rcases h' with(h'|h')|h'
   ·have:e.on=i:=by
     by_cases hh:e.on=i
     ·exact hh
     ·rw [Nat.testBit_two_pow_of_ne hh] at h';cases h'
    subst this
    exact hon
   ·exact fun L hL hk=>ha _ _ h' L hL (hon L hL hk)
   ·exact edgeM_ok ha ho l (fun e he=>hl e (by simp [he])) i h'

theorem getN_append (l:List Nat) (x:Nat):∀j,getN (l++ [x]) j=if j=l.length then x else getN l j:=by
 induction l with
 |nil=>intro j;cases j<;>simp [getN]
 |cons y l ih=>intro j;cases j with
  |zero=>simp [getN]
  |succ j=>simp [getN,ih]

theorem masksGo_ok {all:List Oper}:∀(l:List Oper) (acc:List Nat),(∀j,l[j]? =all[acc.length+j]?)→(∀j i,Nat.testBit (getN acc j) i=true→Bef all i j)→∀j i,Nat.testBit (getN (masksGo l acc) j) i=true→Bef all i j
 |[],acc,_,ha=>ha
 | o::l,acc,hl,ha=>by
  have h0:all[acc.length]? =some o:=by simpa using(hl 0).symm
  refine masksGo_ok l _ (fun j=>by have:=hl (j+1);simpa [Nat.add_assoc,Nat.add_comm 1 j] using this) fun j i h=> ?_
  rw [getN_append] at h
  by_cases hj:j=acc.length
  ·subst hj
   rw [if_pos rfl] at h
   exact edgeM_ok ha h0 _ (fun e he=>by simpa using he) i h
  ·rw [if_neg hj] at h
   exact ha j i h
theorem bef_ok {all:List Oper} {i j:Nat} (h:bef (masksGo all []) i j=true):Bef all i j:=
 masksGo_ok all [] (by simp) (fun j i h=>by cases j<;>simp [getN] at h) j i h

theorem inL_ok {l:List Nat} {n:Nat}:inL l n=false→n∉l:=by
 induction l with
 |nil=>simp
 | cons x l ih=>
  intro h
  simp only [inL,Bool.or_eq_false_iff] at h
  have h2:=ih h.2
  intro hm
  rcases List.mem_cons.1 hm with e|e
  ·subst e
   rw [Nat.beq_refl] at h
   simp at h
  ·exact h2 e

structure Pair (E:Env) (all:List Oper) (i:Nat) (x:Oper) (j:Nat) (y:Oper):Prop where
 nb:bef (masksGo all []) i j=false
 q:(clsX E x.op≠some 4∧clsX E y.op≠some 4∧(clsX E x.op=some 0∨clsX E y.op=some 0∨(quietB E all i x=true∧quietB E all j y=true)∨(quietB E all i x=true∧clsX E y.op=some 5)∨(clsX E x.op=some 5∧clsX E y.op=some 1)∨(clsX E x.op=some 1∧clsX E y.op=some 2)∨(clsX E x.op=some 2∧clsX E y.op=some 1)))∨
  (clsX E x.op=some 4∧(clsX E y.op=some 0∨clsX E y.op=some 1))∨((clsX E x.op=some 0∨clsX E x.op=some 1)∧clsX E y.op=some 4)∨clsX E y.op=some 6
 a1:∀d,x.dst=some d→d∉looks all y
 a2:∀d,x.dst=some d→y.dst≠some d
 a3:∀d,y.dst=some d→d∉looks all x

theorem isT_ok {E:Env} {o:Oper} (h:isT E o=true):clsX E o.op=some 0:=by
 unfold isT at h
 split at h
 ·assumption
 ·cases h
theorem isF_ok {E:Env} {o:Oper} (h:isF E o=true):clsX E o.op=some 5:=by
 unfold isF at h
 split at h
 ·assumption
 ·cases h
theorem is1_ok {E:Env} {o:Oper} (h:is1 E o=true):clsX E o.op=some 1:=by
 unfold is1 at h
 split at h
 ·assumption
 ·cases h
theorem is2_ok {E:Env} {o:Oper} (h:is2 E o=true):clsX E o.op=some 2:=by
 unfold is2 at h
 split at h
 ·assumption
 ·cases h
theorem is01_ok {E:Env} {o:Oper} (h:is01 E o=true):clsX E o.op=some 0∨clsX E o.op=some 1:=by
 unfold is01 at h
 split at h
 ·exact .inl (by assumption)
 ·exact .inr (by assumption)
 ·cases h
theorem is6_ok {E:Env} {o:Oper} (h:is6 E o=true):clsX E o.op=some 6:=by
 unfold is6 at h
 split at h
 ·assumption
 ·cases h
theorem isBar_ok {E:Env} {o:Oper} (h:isBar E o=true):clsX E o.op=some 4:=by
 unfold isBar at h
 split at h
 ·assumption
 ·cases h
theorem isBar_no {E:Env} {o:Oper} (h:isBar E o=false):clsX E o.op≠some 4:=fun h'=>by simp [isBar,h'] at h

theorem pairOk_ok {E:Env} {all:List Oper} {i j:Nat} {x y:Oper} (h:pairOk E all (masksGo all []) i x j y=true):Bef all i j∨Pair E all i x j y:=by
 unfold pairOk at h
 cases hb:bef (masksGo all []) i j with
 |true=>exact .inl (bef_ok hb)
 | false=>
  rw [hb] at h
  simp only [Bool.false_or,Bool.and_eq_true,Bool.or_eq_true,Bool.not_eq_true'] at h
  obtain⟨h3,h4⟩:=h
  unfold apartB at h4
  rw [Bool.and_eq_true] at h4
  obtain⟨h4,h5⟩:=h4
  refine .inr ⟨hb,?_,fun d hx=> ?_,fun d hx hy=> ?_,fun d hy=> ?_⟩
  ·rcases h3 with((⟨⟨h1,h2⟩,h3⟩|h3)|h3)|h3
   ·refine .inl ⟨isBar_no h1,isBar_no h2,?_⟩
    rcases h3 with(((((h3|h3)|h3)|h3)|h3)|h3)|h3
    ·exact .inl (isT_ok h3)
    ·exact .inr (.inl (isT_ok h3))
    ·exact .inr (.inr (.inl h3))
    ·exact .inr (.inr (.inr (.inl ⟨h3.1,isF_ok h3.2⟩)))
    ·exact .inr (.inr (.inr (.inr (.inl ⟨isF_ok h3.1,is1_ok h3.2⟩))))
    ·exact .inr (.inr (.inr (.inr (.inr (.inl ⟨is1_ok h3.1,is2_ok h3.2⟩)))))
    ·exact .inr (.inr (.inr (.inr (.inr (.inr ⟨is2_ok h3.1,is1_ok h3.2⟩)))))
   ·exact .inr (.inl ⟨isBar_ok h3.1,is01_ok h3.2⟩)
   ·exact .inr (.inr (.inl ⟨is01_ok h3.1,isBar_ok h3.2⟩))
   ·exact .inr (.inr (.inr (is6_ok h3)))
  ·rw [hx] at h4
   simp only [Bool.and_eq_true,Bool.not_eq_true'] at h4
   exact inL_ok h4.1
  ·rw [hx,hy] at h4
   simp only [Bool.and_eq_true,Bool.not_eq_true'] at h4
   rw [Nat.beq_refl] at h4
   simp at h4
  ·rw [hy] at h5
   simp only [Bool.not_eq_true'] at h5
   exact inL_ok h5

theorem pairsI_ok {E:Env} {all:List Oper} {ms:List Nat} {j:Nat} {y:Oper}:∀(l:List Oper) (i0:Nat),(∀k,l[k]? =all[i0+k]?)→pairsI E all ms j y i0 l=true→∀i x,i0≤i→i<j→all[i]? =some x→pairOk E all ms i x j y=true
 |[],i0,hl,_,i,x,h1,h2,hx=>by
  have:=hl (i-i0)
  rw [show i0+(i-i0)=i by omega,hx] at this
  simp at this
 | z::l,i0,hl,h,i,x,h1,h2,hx=>by
  unfold pairsI at h
  cases hb:Nat.beq i0 j with
  |true=>have:=beq_ok hb;omega
  | false=>
   rw [hb] at h
   simp only [cond_false,Bool.and_eq_true] at h
   by_cases hi:i=i0
   ·subst hi
    have:all[i]? =some z:=by simpa using(hl 0).symm
    have:x=z:=Option.some.inj (hx.symm.trans this)
    subst this
    exact h.1
   ·exact pairsI_ok l (i0+1) (fun k=>by have:=hl (k+1);simpa [Nat.add_assoc,Nat.add_comm 1 k] using this) h.2 i x (by omega) h2 hx

theorem edgesOk_ok {j:Nat}:∀{l:List Edge},edgesOk j l=true→∀e∈l,Region.binds .any e=true→e.on<j
 | e::l,h,e',he=>by
  simp only [edgesOk,Bool.and_eq_true] at h
  rcases List.mem_cons.1 he with h'|h'
  ·subst h'
   intro hb
   have:=h.1
   rw [hb] at this
   simpa [Nat.blt_eq] using this
  ·exact edgesOk_ok h.2 e' h'

theorem pairsJ_ok {E:Env} {all:List Oper} {ms:List Nat}:∀(l:List Oper) (j0:Nat),(∀k,l[k]? =all[j0+k]?)→pairsJ E all ms j0 l=true→∀j y,j0≤j→all[j]? =some y→
  clsX E y.op≠none∧(∀e∈y.after,Region.binds .any e=true→e.on<j)∧∀i x,i<j→all[i]? =some x→pairOk E all ms i x j y=true
 |[],j0,hl,_,j,y,h1,hy=>by
  have:=hl (j-j0)
  rw [show j0+(j-j0)=j by omega,hy] at this
  simp at this
 | z::l,j0,hl,h,j,y,h1,hy=>by
  unfold pairsJ at h
  simp only [Bool.and_eq_true] at h
  obtain⟨⟨⟨ha,hb⟩,hc⟩,hd⟩:=h
  by_cases hj:j=j0
  ·subst hj
   have:all[j]? =some z:=by simpa using(hl 0).symm
   have:y=z:=Option.some.inj (hy.symm.trans this)
   subst this
   exact⟨fun hn=>by rw [hn] at ha;simp at ha,fun e he=>edgesOk_ok hb e (by simpa using he),fun i x hi hx=>pairsI_ok all 0 (by simp) hc i x (by omega) hi hx⟩
  ·exact pairsJ_ok l (j0+1) (fun k=>by have:=hl (k+1);simpa [Nat.add_assoc,Nat.add_comm 1 k] using this) hd j y (by omega) hy
end Go.Proofs.YtlmegkgkipjgbaaDoor.Vc

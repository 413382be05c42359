/- Texts of this claim. -/
import Derived.Test.YtogipicegdbhdaaDoorVc7
import Derived.Test.YtogipicegdbhdaaDoorVc5
set_option linter.unusedVariables false
set_option linter.unusedSimpArgs false
namespace Go.Proofs.YtogipicegdbhdaaDoor.Vc
open Go Go.RowKit
section
def Lc {α:Type} (n:Nat) (L W:Nat→Prop) (A:Nat→α) (cur:α):Prop:=∀k,k≤n→(∀i,i<k→W i→L i)→(∀i,k≤i→W i→¬L i)→cur=A k

def Uz (all:List Oper) (W:Nat→Prop) (j:Nat):Prop:=∀i,W i→(i<j→Ck all i j)∧(j<i→Ck all j i)

section
variable {α:Type} {all:List Oper} {n:Nat} {L L' W:Nat→Prop} {A:Nat→α} {cur cur':α} {j:Nat}

theorem Lc.read (h:Lc n L W A cur) (hc:Uz all W j) (hj:j≤n) (hcl:Wa all L) (hcl':Wa all fun i=>L i∨i=j) (hn:¬L j):cur=A j:=by
 refine h j hj (fun i hi hw=> ?_) fun i hi hw hL=> ?_
 ·rcases(hc i hw).1 hi _ hcl' (.inr rfl) with h'|h'
  ·exact h'
  ·omega
 ·rcases Nat.lt_or_ge j i with h'|h'
  ·exact hn ((hc i hw).2 h' L hcl hL)
  ·have:i=j:=by omega
   subst this
   exact hn hL

theorem Lc.step (h:Lc n L W A cur) (hj:j<n) (hcl:Wa all L) (hn:¬L j) (hA:∀k,k<n→¬W k→A (k+1)=A k) (h1:¬W j→cur'=cur) (h2:W j→cur'=A (j+1)) (hc:W j→Uz all W j):Lc n (fun i=>L i∨i=j) W A cur':=by
 intro k hk ha hb
 by_cases hw:W j
 ·have hjk:j<k:=by
   rcases Nat.lt_or_ge j k with h'|h'
   ·exact h'
   ·exact absurd (.inr rfl) (hb j h' hw)
  have hno:∀i,j<i→i<k→¬W i:=fun i h3 h4 hwi=>by
   rcases ha i h4 hwi with h'|h'
   ·exact hn ((hc hw i hwi).2 h3 L hcl h')
   ·omega
  rw [h2 hw]
  have:∀d,j+1+d≤k→A (j+1+d)=A (j+1):=by
   intro d
   induction d with
   |zero=>intro _;rfl
   |succ d ih=>
    intro hd
    rw [←ih (by omega)]
    exact hA (j+1+d) (by omega) (hno _ (by omega) (by omega))
  have:=this (k-(j+1)) (by omega)
  rw [show j+1+(k-(j+1))=k by omega] at this
  exact this.symm
 ·rw [h1 hw]
  refine h k hk (fun i hi hwi=> ?_) fun i hi hwi hL=>hb i hi hwi (.inl hL)
  rcases ha i hi hwi with h'|h'
  ·exact h'
  ·subst h';exact absurd hwi hw
end

theorem xH:∀{l l':List V},l.length=l'.length→(∀t,aL l t=aL l' t)→l=l'
 |[], [],_,_=>rfl
 |x::l,y::l',h,hg=>by
  have h0:x=y:=hg 0
  subst h0
  rw [xH (l:=l) (l':=l') (by simpa using h) fun t=>hg (t+1)]
 |[],_::_,h,_=>by simp at h
 |_::_, [],h,_=>by simp at h
theorem oO (σ:List V) (d:Option Nat) (v:V):(mF σ d v).length=σ.length:=by
 cases d with
 |none=>rfl
 |some d=>simp [mF,gV]
theorem mT (v:V):∀(σ:List V) {d t:Nat},d≠t→aL (bg σ d v) t=aL σ t
 |[],d,t,_=>by cases d<;>rfl
 |x::l,0,0,h=>absurd rfl h
 |x::l,0,t+1,_=>rfl
 |x::l,d+1,0,_=>rfl
 |x::l,d+1,t+1,h=>mT v l (by omega)
theorem lB (v:V):∀(σ σ':List V) (d:Nat),σ.length=σ'.length→aL (bg σ d v) d=aL (bg σ' d v) d
 |[], [],d,_=>rfl
 |x::l,y::l',0,_=>rfl
 |x::l,y::l',d+1,h=>lB v l l' d (by simpa using h)
 |[],_::_,_,h=>by simp at h
 |_::_, [],_,h=>by simp at h

def fB (E:Env) (all:List Oper) (S:Nat→List V) (t i:Nat):Prop:=∃o,all[i]? =some o∧(o.dst=some t∨(aU E o.op=some 4∧aL (S (i+1)) t≠aL (S i) t))
def b9 (E:Env) (all:List Oper) (i:Nat):Prop:=∃o,all[i]? =some o∧(aU E o.op=some 3∨aU E o.op=some 4∨aU E o.op=some 5∨(aU E o.op=some 2∧¬dj E all i=true))
def oG (E:Env) (all:List Oper) (i:Nat):Prop:=∃o,all[i]? =some o∧(aU E o.op=some 3∨aU E o.op=some 4)
mutual
theorem iH {n id:Nat} (hn:n≤id):∀x:V,x.older n=true→x.mentions id=false
 |.undef,_=>rfl
 |.nope,_=>rfl
 |.int _ _,_=>rfl
 |.u8 _,_=>rfl
 |.b _,_=>rfl
 |.bt _,_=>rfl
 |.str _,_=>rfl
 |.nils,_=>rfl
 |.sl _ _ _,_=>rfl
 |.own t i,h=>dY (i:=i) fun e=>by have h:Nat.blt i n=true:=h;simp at h;omega
 |.slc t i o l,h=>dY (i:=i) fun e=>by have h:Nat.blt i n=true:=h;simp at h;omega
 |.rp _ _ _ _,_=>rfl
 |.ptr i z j o,h=>dY (i:=i) fun e=>by have h:Nat.blt i n=true:=h;simp at h;omega
 |.agg cs,h=>older_nomL hn cs h
 |.tup cs,h=>older_nomL hn cs h
 |.fn f cs,h=>older_nomL hn cs h
 |.nilfn,_=>rfl
 |.yld _,_=>rfl
 |.dat _ _ _,_=>rfl
 |.rb x,h=>iH hn x h
 |.mp t i,h=>dY (i:=i) fun e=>by have h:Nat.blt i n=true:=h;simp at h;omega
theorem older_nomL {n id:Nat} (hn:n≤id):∀l:List V,V.olderL n l=true→V.mentionsL id l=false
 |[],_=>rfl
 |x::l,h=>by
  simp only [V.olderL,Bool.and_eq_true] at h
  rw [V.mentionsL,iH hn x h.1,older_nomL hn l h.2];rfl
end
theorem kX (kd:Option Nat) (σ:List V):(bJ kd σ).length=σ.length:=by
 cases kd with
 |none=>rfl
 |some id=>exact bo _ _
theorem i4 {kd:Option Nat} {σ:List V} {t:Nat} (h:∀id,kd=some id→(aL σ t).mentions id=false):aL (bJ kd σ) t=aL σ t:=by
 cases kd with
 |none=>rfl
 |some id=>
  show aL (ak id σ) t=_
  rw [dW,h id rfl];rfl
theorem oU {kd:Option Nat} {σ σ':List V} {t:Nat} (h:aL σ t=aL σ' t):aL (bJ kd σ) t=aL (bJ kd σ') t:=by
 cases kd with
 |none=>exact h
 |some id=>
  show aL (ak id σ) t=aL (ak id σ') t
  rw [dW,dW,h]
theorem c7 {σ:List V} {d:Option Nat} {v:V} {t:Nat} (h:d≠some t):aL (mF σ d v) t=aL σ t:=by
 cases d with
 |none=>rfl
 |some d=>exact mT v _ fun e=>h (by rw [e])
theorem uU {σ σ':List V} {d:Option Nat} {v:V} {t:Nat} (hl:σ.length=σ'.length) (h:aL σ t=aL σ' t):aL (mF σ d v) t=aL (mF σ' d v) t:=by
 by_cases e:d=some t
 ·subst e;exact lB v _ _ _ hl
 ·rw [c7 e,c7 e,h]
theorem fx (v:V):∀(σ:List V) (d:Nat),aL (bg σ d v) d=v∨aL (bg σ d v) d= .undef
 |[],d=>by cases d<;>exact .inr rfl
 |_::l,0=> .inl rfl
 |_::l,d+1=>fx v l d
theorem Dw {n:Nat} {σ:List V} {d:Nat} {v:V} (h:v.older n=true):(aL (mF σ (some d) v) d).older n=true:=by
 rcases fx v σ d with e|e
 ·show(aL (bg σ d v) d).older n=true
  rw [e];exact h
 ·show(aL (bg σ d v) d).older n=true
  rw [e];rfl
theorem iI {n:Nat} {σ:List V}:∀{l:List Nat},ir n σ l=true→∀t∈l,(aL σ t).older n=true
 |[],_,t,ht=>by simp at ht
 |s::l,h,t,ht=>by
  rw [ir,Bool.and_eq_true] at h
  rcases List.mem_cons.1 ht with rfl|ht
  ·exact h.1
  ·exact iI h.2 t ht
theorem mY {o:Oper} {d:Nat} (h:o.dst=some d):d∈xR o:=by unfold xR;rw [h];simp
theorem vS {E:Env} {ms:List Nat} {k:Nat}:∀(l:List Oper) (i0:Nat) {j:Nat} {x:Oper},l[j]? =some x→eg E x=true→i0+j≠k→bP ms (i0+j) k=true→vT E ms k i0 l=true
 |[],_,j,x,hx,_,_,_=>by simp at hx
 |o::l,i0,0,x,hx,hb,hk,hu=>by
  obtain rfl:o=x:=by simpa using hx
  rw [vT,hb,show bP ms i0 k=true from hu,dY (by simpa using hk)];rfl
 |o::l,i0,j+1,x,hx,hb,hk,hu=>by
  rw [vT,vS l (i0+1) (j:=j) (by simpa using hx) hb (by omega) (by rw [show i0+1+j=i0+(j+1) by omega];exact hu),Bool.or_true]
theorem sq {E:Env}:∀(l:List Oper) {j:Nat} {x:Oper},l[j]? =some x→eg E x=true→qz E l=true
 |[],j,x,hx,_=>by simp at hx
 |o::l,0,x,hx,hb=>by
  obtain rfl:o=x:=by simpa using hx
  rw [qz,hb];rfl
 |o::l,j+1,x,hx,hb=>by rw [qz,sq l (j:=j) (by simpa using hx) hb,Bool.or_true]
theorem Re {E:Env} {all:List Oper} {k i:Nat} {x:Oper} (hx:all[i]? =some x) (hb:aU E x.op=some 4) (hk:i≠k) (hu:bP (ae all []) i k=true):Z8 E all k=true:=by
 have hb':eg E x=true:=by simp [eg,hb]
 rw [Z8,sq all hx hb',vS all 0 (j:=i) hx hb' (by simpa using hk) (by simpa using hu)];rfl
theorem Cg {ms:List Nat} {k:Nat}:∀(l:List Oper) (i0:Nat) {j:Nat} {x:Oper},l[j]? =some x→i0+j≠k→bP ms (i0+j) k=true→re ms k i0 l=true
 |[],_,j,x,hx,_,_=>by simp at hx
 |o::l,i0,0,x,hx,hk,hu=>by rw [re,show bP ms i0 k=true from hu,dY (by simpa using hk)];rfl
 |o::l,i0,j+1,x,hx,hk,hu=>by
  rw [re,Cg l (i0+1) (j:=j) (by simpa using hx) (by omega) (by rw [show i0+1+j=i0+(j+1) by omega];exact hu),Bool.or_true]
theorem Fv {E:Env} {ms:List Nat} {k:Nat}:∀(l:List Oper) (i0:Nat) {j:Nat} {x:Oper},l[j]? =some x→aU E x.op=some 1→i0+j≠k→bP ms (i0+j) k=true→vU E ms k i0 l=true
 |[],_,j,x,hx,_,_,_=>by simp at hx
 |o::l,i0,0,x,hx,hc,hk,hu=>by
  obtain rfl:o=x:=by simpa using hx
  rw [vU,show bP ms i0 k=true from hu,dY (show i0≠k by simpa using hk),show Mj E o=true by simp [Mj,hc]];rfl
 |o::l,i0,j+1,x,hx,hc,hk,hu=>by
  rw [vU,Fv l (i0+1) (j:=j) (by simpa using hx) hc (by omega) (by rw [show i0+1+j=i0+(j+1) by omega];exact hu),Bool.or_true]
theorem Ap {all:List Oper} {ms:List Nat} {k n:Nat} {σ:List V}:∀(l:List Oper) (i0:Nat) {j:Nat} {x:Oper},qP all ms k n σ i0 l=true→l[j]? =some x→i0+j≠k→bP ms (i0+j) k=true→ir n σ (looks all x)=true∧ir n σ (xR x)=true
 |[],_,j,x,_,hx,_,_=>by simp at hx
 |o::l,i0,0,x,h,hx,hk,hu=>by
  obtain rfl:o=x:=by simpa using hx
  rw [qP,Bool.and_eq_true,show bP ms i0 k=true from hu,dY (show i0≠k by simpa using hk)] at h
  simpa using h.1
 |o::l,i0,j+1,x,h,hx,hk,hu=>by
  rw [qP,Bool.and_eq_true] at h
  exact Ap l (i0+1) (j:=j) h.2 (by simpa using hx) (by omega) (by rw [show i0+1+j=i0+(j+1) by omega];exact hu)
theorem fc {id:Nat} {σ:List V}:∀{l:List Nat},gl id σ l=true→∀t∈l,(aL σ t).mentions id=false
 |[],_,t,ht=>by simp at ht
 |s::l,h,t,ht=>by
  rw [gl,Bool.and_eq_true] at h
  rcases List.mem_cons.1 ht with rfl|ht
  ·simpa using h.1
  ·exact fc h.2 t ht
theorem qW {σ:List V} {l:List Nat}:∀{X:List Nat},pN σ l X=true→∀i∈X,∀t∈l,(aL σ t).mentions i=false
 |[],_,i,hi,_,_=>by cases hi
 |x::X,h,i,hi,t,ht=>by
  rw [pN,Bool.and_eq_true] at h
  rcases List.mem_cons.1 hi with rfl|hi
  ·exact fc h.1 t ht
  ·exact qW h.2 i hi t ht
theorem wW {all:List Oper} {ms:List Nat} {k id:Nat} {σ:List V}:∀(l:List Oper) (i0:Nat) {j:Nat} {x:Oper},wX all ms k id σ i0 l=true→l[j]? =some x→i0+j≠k→bP ms (i0+j) k=true→gl id σ (looks all x)=true∧gl id σ (xR x)=true
 |[],_,j,x,_,hx,_,_=>by simp at hx
 |o::l,i0,0,x,h,hx,hk,hu=>by
  obtain rfl:o=x:=by simpa using hx
  rw [wX,Bool.and_eq_true,show bP ms i0 k=true from hu,dY (show i0≠k by simpa using hk)] at h
  simpa using h.1
 |o::l,i0,j+1,x,h,hx,hk,hu=>by
  rw [wX,Bool.and_eq_true] at h
  exact wW l (i0+1) (j:=j) h.2 (by simpa using hx) (by omega) (by rw [show i0+1+j=i0+(j+1) by omega];exact hu)
theorem Ce {E:Env} {ms:List Nat} {κ:List (Option (Nat×List Nat))} {k:Nat} {chk:Nat×List Nat→Bool}:∀(l:List Oper) (i0:Nat) {j:Nat} {x:Oper} {id:Nat×List Nat},zY E ms κ k chk i0 l=true→l[j]? =some x→aU E x.op=some 4→i0+j≠k→bP ms (i0+j) k=true→dK κ (i0+j)=some id→chk id=true
 |[],_,j,x,id,_,hx,_,_,_,_=>by simp at hx
 |o::l,i0,0,x,id,h,hx,hb,hk,hu,hi=>by
  obtain rfl:o=x:=by simpa using hx
  rw [zY,Bool.and_eq_true,show bP ms i0 k=true from hu,dY (show i0≠k by simpa using hk),show dK κ i0=some id from hi] at h
  have hb':eg E o=true:=by simp [eg,hb]
  have h1:=h.1
  dsimp only at h1
  rw [hb'] at h1
  simpa using h1
 |o::l,i0,j+1,x,id,h,hx,hb,hk,hu,hi=>by
  rw [zY,Bool.and_eq_true] at h
  exact Ce l (i0+1) (j:=j) h.2 (by simpa using hx) hb (by omega) (by rw [show i0+1+j=i0+(j+1) by omega];exact hu) (by rw [show i0+1+j=i0+(j+1) by omega];exact hi)
theorem Cc {E:Env} {all:List Oper} {κ:List (Option (Nat×List Nat))} {k j:Nat} {chk:Nat×List Nat→Bool} {x:Oper} {id:Nat×List Nat} (h:Pe E all κ k chk=true) (hx:all[j]? =some x) (hb:aU E x.op=some 4) (hk:j≠k) (hu:bP (ae all []) j k=true) (hi:dK κ j=some id):chk id=true:=
 Ce all 0 (j:=j) h hx hb (by simpa using hk) (by simpa using hu) (by simpa using hi)
theorem Nw {id:Nat} {σ:List V} {d:Nat} {v:V} (h:v.mentions id=false):(aL (mF σ (some d) v) d).mentions id=false:=by
 rcases fx v σ d with e|e
 ·show(aL (bg σ d v) d).mentions id=false
  rw [e];exact h
 ·show(aL (bg σ d v) d).mentions id=false
  rw [e];rfl
theorem xE {p:Nat→Prop} {j:Nat}:∀k,(∃i,j<i∧i<k∧p i)→∃i,j<i∧i<k∧p i∧∀m,i<m→m<k→¬p m
 |0,⟨i,_,h,_⟩=>by omega
 | k+1,⟨i,h1,h2,h3⟩=>by
  by_cases hk:p k∧j<k
  ·exact⟨k,hk.2,by omega,hk.1,fun m a b=>by omega⟩
  ·have hik:i<k:=by
    rcases Nat.lt_or_ge i k with g|g
    ·exact g
    ·have:i=k:=by omega
     subst this
     exact absurd ⟨h3,h1⟩ hk
   obtain⟨i',a,b,c,d⟩:=xE k ⟨i,h1,hik,h3⟩
   refine⟨i',a,by omega,c,fun m e f g=> ?_⟩
   rcases Nat.lt_or_ge m k with hm|hm
   ·exact d m e hm g
   ·have:m=k:=by omega
    subst this
    exact hk ⟨g,by omega⟩
theorem S9 {v:V} {id:Nat} (h:v.nb.top id):v.top id:=by cases v<;>exact h
theorem Du {n id:Nat} {v:V} (h:v.top id) (ho:v.older n=true):id<n:=by
 cases v<;>first|exact h.elim|skip
 all_goals
  have h:_=id:=h
  subst h
  simpa [V.older] using ho
theorem tX {v:V} {id:Nat} (h:v.top id):v.mentions id=true:=by
 cases v<;>first|exact h.elim|skip
 all_goals
  have h:_=id:=h
  subst h
  simp [V.mentions]
theorem uc {E:Env} (hG:bV E.glob) {all:List Oper} {o:Oper} {σ:List V} {id:Nat} {x:Operand} (hx:x∈o.op.operands.toList) (ht:(ev E σ x).top id):∃t∈looks all o,(aL σ t).top id:=by
 cases x with
 | tmp t=>
  have hl:t∈looks all o:=by
   have:=lO hx
   unfold looks
   split
   ·split
    ·exact List.mem_cons_of_mem _ this
    ·exact this
   ·exact this
  exact⟨t,hl,S9 ht⟩
 | const v=>
  exfalso
  revert ht
  show(cv v).top id→False
  unfold cv
  split
  ·exact fun h=>h
  ·unfold V6
   split
   ·generalize Qf _ _=b;cases b<;>exact fun h=>h
   ·generalize Qf _ _=b;cases b<;>exact fun h=>h
   ·exact fun h=>h
   ·generalize Nat.ble _ _=b;cases b<;>exact fun h=>h
   all_goals exact fun h=>h
 | global g=>
  exfalso
  have e:ev E σ (.global g)=(lk E.glob g).getD .undef:=rfl
  rw [e] at ht
  cases hg:lk E.glob g with
  |none=>rw [hg] at ht;exact ht
  |some x=>
   rw [hg] at ht
   have h1:=hG g x id hg
   have h2:x.mentions id=true:=tX ht
   rw [h2] at h1
   cases h1
 |func f=>exact ht.elim
theorem Jk {E:Env} (hG:bV E.glob) {all:List Oper} {o:Oper} {σ:List V} {n id:Nat} (h:∀t∈looks all o,(aL σ t).older n=true) {x:Operand} (hx:x∈o.op.operands.toList) (ht:(ev E σ x).top id):id<n:=by
 obtain⟨t,hl,h2⟩:=uc hG (all:=all) hx ht
 exact Du h2 (h t hl)
theorem Qq {p:Nat→Prop} (h:∃i,p i):∃k,p k∧∀i,i<k→¬p i:=by
 obtain⟨i,hi⟩:=h
 induction i using Nat.strongRecOn with
 |_ i ih=>
  by_cases hx:∃m,m<i∧p m
  ·obtain⟨m,h1,h2⟩:=hx;exact ih m h1 h2
  ·exact⟨i,hi,fun m hm hp=>hx ⟨m,hm,hp⟩⟩
theorem c8:∀(A X:List Blk) (id:Nat),id<A.length→aD (A++X) id=aD A id
 |[],X,id,h=>by simp at h
 |a::A,X,0,h=>rfl
 |a::A,X,id+1,h=>c8 A X id (by simpa using h)
theorem jr {A:List Blk} {id:Nat} (h:aD A id≠ .dead):id<A.length:=by
 rcases Nat.lt_or_ge id A.length with g|g
 ·exact g
 ·exact absurd (bB A id g) h
theorem Cj.app (A X:List Blk):Cj A (A++X):=fun id h=>c8 A X id (jr h)
theorem Rh {c:Cx} {H:List Blk} {w:World} {x:V} {v:Value} {id:Nat} (h:VRel c H w x v) (ht:x.top id):id<H.length:=by
 cases h<;>first|exact ht.elim|skip
 ·rename_i hs _ _ _
  have e:=ht
  simp only [V.top] at e
  subst e
  exact cV hs
 ·rename_i hs _ _ _ _
  have e:=ht
  simp only [V.top] at e
  subst e
  exact cV hs
 ·rename_i hs _ _ _
  have e:=ht
  simp only [V.top] at e
  subst e
  exact cV hs
 ·rename_i hs hr
  have e:=ht
  simp only [V.top] at e
  subst e
  exact cV hs

theorem wC {E:Env}:∀(l:List Oper) (k:Nat) {o:Oper},l[k]? =some o→cy E o.op=true→dA E k l<fz E l
 |[],k,o,h,_=>by simp at h
 |x::l,0,o,h,ha=>by
  obtain rfl:x=o:=by simpa using h
  rw [dA,fz,ha];simp
 |x::l,k+1,o,h,ha=>by
  have:=wC l k (by simpa using h) ha
  rw [dA,fz]
  cases cy E x.op<;>simp<;>omega
theorem qI {E:Env}:∀(l:List Oper) (k d:Nat),dA E k l≤dA E (k+d) l
 |[],k,d=>by cases k<;>(cases d<;>simp [dA])<;>rw [show∀n,dA E n []=0 from fun n=>by cases n<;>rfl]<;>simp
 |x::l,0,d=>by simp [dA]
 |x::l,k+1,d=>by
  have:=qI (E:=E) l k d
  rw [show k+1+d=(k+d)+1 by omega,dA,dA]
  cases cy E x.op<;>simp<;>omega
theorem lJ {E:Env}:∀(l:List Oper) (k:Nat) {o:Oper},l[k]? =some o→cy E o.op=true→dA E k l<dA E (k+1) l
 |[],k,o,h,_=>by simp at h
 |x::l,0,o,h,ha=>by
  obtain rfl:x=o:=by simpa using h
  rw [dA,dA,ha];simp
 |x::l,k+1,o,h,ha=>by
  have:=lJ l k (by simpa using h) ha
  rw [dA,dA]
  cases cy E x.op<;>simp<;>omega
theorem Db {E:Env} {l:List Oper} {i j:Nat} {x y:Oper} (hx:l[i]? =some x) (hy:l[j]? =some y) (ax:cy E x.op=true) (ay:cy E y.op=true) (h:dA E i l=dA E j l):i=j:=by
 rcases Nat.lt_trichotomy i j with g|g|g
 ·have h1:=lJ l i hx ax
  have h2:=qI (E:=E) l (i+1) (j-(i+1))
  rw [show i+1+(j-(i+1))=j by omega] at h2
  omega
 ·exact g
 ·have h1:=lJ l j hy ay
  have h2:=qI (E:=E) l (j+1) (i-(j+1))
  rw [show j+1+(i-(j+1))=i by omega] at h2
  omega
theorem kc {E:Env} {o:Op} (h:aU E o=some 6):cy E o=true:=by
 unfold aU at h
 cases hv:jR E o with
 |true=>rw [hv] at h;simp at h
 | false=>
  cases ha:cy E o with
  |true=>rfl
  |false=>
   cases hs:V1 E o with
   |true=>rw [hv,ha,hs] at h;simp at h
   |false=>rw [hv,ha,hs] at h;have:=zV (show aV E o=some 6 from h);omega

theorem iU {p q:Nat→Bool}:∀(l:List Nat) {j:Nat},(∀i,q i=true→p i=true)→j∈l→p j=true→q j=false→l.countP q<l.countP p
 | x::l,j,h,hj,hp,hq=>by
  have hle:l.countP q≤l.countP p:=List.countP_mono_left fun i _=>h i
  rw [List.countP_cons,List.countP_cons]
  by_cases hx:j=x
  ·subst hx
   rw [hp,hq]
   simp
   omega
  ·have hm:j∈l:=by rcases List.mem_cons.1 hj with h'|h';exact absurd h' hx;exact h'
   have:=iU l h hm hp hq
   have hc:=h x
   cases hqx:q x<;>cases hpx:p x<;>simp [hqx,hpx] at hc ⊢<;>omega

section
variable {E:Env} {P:Program} {S:Ci} {ro:Option Nat}

theorem fD.drew {σ:List V} {H:List Blk} {a:Act} {w:World} (h:fD E S σ H a w):fD E S σ H a {w with drawn:=w.drawn+1}:=by
 obtain⟨c,b,v,hS,hst,hσ,hd⟩:=h
 have e:Ext c H w c H {w with drawn:=w.drawn+1}:=⟨fun _ h=>h,fun _ h=>h,fun _ _=>rfl,fun _ _ h=>⟨h,rfl⟩,fun _ _ _ cur _ _ _ h=>⟨cur,h,rfl⟩,rfl,rfl,fun _ _ _=>rfl⟩
 refine⟨c,b,v,hS,⟨hst.below.drew,⟨hst.xk.keep,hst.xk.siz,hst.xk.cnt,hst.xk.gh,hst.xk.l,hst.xk.dis,hst.xk.xb,hst.xk.mks,hst.xk.gi⟩,hst.size,fun id=>(hst.blk id).keep e (fun _=>rfl) (fun _=>rfl) fun _ _=>rfl,hst.inj,hst.own,hst.imm,hst.sub,fun g x hx=>(hst.glob g x hx).ext e⟩,hσ.ext e,hd⟩

theorem fD.res {σ:List V} {H:List Blk} {a:Act} {w:World} (h:fD E S σ H a w) (m:Nat):fD E S σ (H++List.replicate m .dead) a w:=by
 obtain⟨c,b,v,hS,hst,hσ,hd⟩:=h
 exact⟨c,b,v,hS,hst.res m,hσ.ext (Ext.res m),hd⟩

def Pd (cs:List V) (c:Option Nat) (b:Blk):Prop:=∃cs2,b= .cells cs2∧cs2.length=cs.length∧∀j,c=some j→aL cs2 j=aL cs j
theorem Na {z:Nat} {cs:List V} {c:Option Nat} (hx:∀j,c=some j→(aL cs j).mentions z=false∧aL cs j≠ .undef) (b:Blk):Pd cs c (ci z b)↔Pd cs c b:=by
 constructor
 ·rintro⟨cs2,h1,h2,h3⟩
  cases b with
  |cells cs3=>
   injection h1 with h1
   subst h1
   rw [bo] at h2
   refine⟨cs3,rfl,h2,fun j hj=> ?_⟩
   have h4:=h3 j hj
   rw [dW] at h4
   cases hm:(aL cs3 j).mentions z with
   |true=>rw [hm,cond_true] at h4;exact absurd h4.symm (hx j hj).2
   |false=>rw [hm,cond_false] at h4;exact h4
  |dead=>cases h1
  |row fr t xs=>cases h1
  |imap fr t es=>cases h1
  |mit m n s l=>cases m<;>cases h1
 ·rintro⟨cs2,rfl,h2,h3⟩
  refine⟨ak z cs2,rfl,by rw [bo];exact h2,fun j hj=> ?_⟩
  rw [dW,h3 j hj,(hx j hj).1,cond_false]
theorem He {n:Nat} {o:Op} {σ:List V} {H:List Blk} {z id:Nat} {x:Operand} (h:qK E n o σ H z=true) (hx:x∈o.operands.toList) (ht:(ev E σ x).top id):
  ∃cs c,aD H id= .cells cs∧(∀cs2,(∀j,c=some j→aL cs2 j=aL cs j)→((∃S x f,o= .fieldAddr S x f)∨∃T p z j o' t,o= .load T p∧ev E σ p= .ptr id z j o'∧lk E.ty T=some t∧Np t=true∧aL cs2 j=aL cs j))∧
   ∀y,qK E n o σ H y=true→∀j,c=some j→(aL cs j).mentions y=false∧aL cs j≠ .undef∧(aL cs j).older n=true:=by
 cases o<;>first|(simp [qK] at h;done)|skip
 case fieldAddr S p f=>
  obtain rfl:x=p:=by simpa [Op.operands] using hx
  unfold qK at h
  dsimp only at h
  split at h<;>first|(cases h;done)|skip
  rename_i r z0 i0 o0 hv
  rw [hv] at ht
  obtain rfl:r=id:=ht
  split at h<;>first|(cases h;done)|skip
  rename_i cs hb
  exact⟨cs,none,hb,fun _ _=> .inl ⟨S,x,f,rfl⟩,fun _ _ j hj=>by cases hj⟩
 case load T p=>
  obtain rfl:x=p:=by simpa [Op.operands] using hx
  have h0:=h
  unfold qK at h
  dsimp only at h
  split at h<;>first|(cases h;done)|skip
  rename_i r z0 i0 o0 t hv hT
  rw [hv] at ht
  obtain rfl:r=id:=ht
  rw [Bool.and_eq_true] at h
  obtain⟨h1,h2⟩:=h
  split at h2<;>first|(cases h2;done)|skip
  rename_i cs hb
  refine⟨cs,some i0,hb,fun cs2 g=> .inr ⟨T,x,z0,i0,o0,t,rfl,hv,hT,h1,g i0 rfl⟩,fun y hy j hj=> ?_⟩
  cases hj
  unfold qK at hy
  dsimp only at hy
  rw [hv,hT] at hy
  dsimp only at hy
  rw [hb] at hy
  simp only [Bool.and_eq_true,Bool.not_eq_true'] at hy
  refine⟨hy.2.1.1,fun e=> ?_,hy.2.2⟩
  have:=hy.2.1.2
  rw [e] at this
  cases this
theorem Oe (hG:bV E.glob) (hE:EnvOk P E) (hdet:rj E) (hm:P.follows .mixedOrders=true):Uy E P:=by
  intro ops id Ss ro σ Hb K a w Q hok hs0 hops hQ
  obtain⟨all,hall⟩:∃all,all=ops.toList:=⟨_,rfl⟩
  rw [←hall] at hok hops
  have hs:=hs0.res (fz E all)
  have hHlen:(Hb++List.replicate (fz E all) Blk.dead).length=Hb.length+fz E all:=by simp
  have hHdead:∀id,Hb.length≤id→aD (Hb++List.replicate (fz E all) Blk.dead) id= .dead:=fun id h=>by rw [rD,bB Hb id h]
  generalize hHH:Hb++List.replicate (fz E all) Blk.dead=H at hs hops hHlen hHdead
  obtain⟨b0,hb0⟩:∃b0,b0=Hb.length:=⟨_,rfl⟩
  rw [←hb0] at hops hHlen hHdead
  obtain⟨n,hn⟩:∃n,n=all.length:=⟨_,rfl⟩
  have hok:=(Bool.and_eq_true _ _▸hok:_∧_).2
  have hstat:=sW all 0 (fun k=>by rw [Nat.zero_add]) hok
  obtain⟨n0,hn0⟩:∃n0,n0=H.length:=⟨_,rfl⟩
  rw [←hn0] at hops
  obtain⟨κ,hκ⟩:∃κ,κ=I1 n0 σ H all all:=⟨_,rfl⟩
  rw [show rgn n0 σ H all=(n0,κ) by rw [hκ];rfl] at hops
  obtain⟨S,Hs,hS0,hH0,hKn,hstep⟩:=trace hdet all 0 σ H K (fun k=>by rw [Nat.zero_add]) (fun o ho=>by
    obtain⟨i,hi⟩:=List.mem_iff_getElem?.1 ho
    exact(hstat i o (by omega) hi).1) hops
  rw [Nat.zero_add,←hn] at hKn
  rw [Nat.zero_add,←hn] at hstep
  have hget:∀i:Nat,ops[i]? =all[i]? :=fun i=>by rw [hall,Array.getElem?_toList]
  have hlt:∀{i:Nat} {o:Oper},all[i]? =some o→i<n:=fun h=>by rw [hn];exact(List.getElem?_eq_some_iff.1 h).1
  have hat:∀{k:Nat},k<n→∃o,all[k]? =some o:=fun {k} h=>⟨_,List.getElem?_eq_getElem (by omega)⟩
  have hpair:∀{i j:Nat} {x y:Oper},i<j→all[i]? =some x→all[j]? =some y→Ck all i j∨Pair E all i x j y:=fun {i j x y} hij hx hy=>
    Dm ((hstat j y (by omega) hy).2.2 i x hij hx)
  have hun:∀{i j:Nat} {x y:Oper},i<j→Pair E all i x j y→bP (ae all []) i j=true∧bP (ae all []) j i=true:=fun {i j x y} hij h=>by
    have e1:Nat.blt i j=true:=by simpa using hij
    have e2:Nat.blt j i=false:=by
      cases e:Nat.blt j i with
      |false=>rfl
      | true => have:j<i:=by simpa using e
                omega
    unfold bP
    rw [e1,e2]
    simp only [cond_true,cond_false,h.nb,Bool.not_false,and_self]
  have hF4:∀{w k:Nat} {ow ok:Oper},all[w]? =some ow→aU E ow.op=some 4→all[k]? =some ok→k≠w→bP (ae all []) k w=true→
      (∀t∈looks all ok,(aL (S w) t).older n0=true)∧(∀d,ok.dst=some d→(aL (S w) d).older n0=true)∧n0≤(Hs w).length∧∀id,fK E (S w) ow.op=some id→(aU E ok.op=some 1→qV id (xP κ w) n0 0 (Hs w)=true)∧(n0≤id∨((∃X,dK κ w=some (id,X))∧(∀t∈looks all ok,(aL (S w) t).mentions id=false)∧∀d,ok.dst=some d→(aL (S w) d).mentions id=false)):=fun {w k ow ok} how hc hok hkw hu=>by
    obtain⟨c,v,kd,hc',he,hpre,_⟩:=hstep w (by omega) (hlt how) _ how
    unfold wQ at hpre
    rw [hc] at hpre
    have hpre:Sx E all (n0,κ) w ow (S w) (Hs w)=true:=hpre
    unfold Sx at hpre
    rw [Cg all 0 (j:=k) hok (by simpa using hkw) (by simpa using hu)] at hpre
    simp only [Bool.not_true,Bool.false_or,Bool.and_eq_true] at hpre
    obtain⟨⟨h1,h2⟩,h3⟩:=hpre
    obtain⟨h4,h5⟩:=Ap all 0 (j:=k) h1 hok (by simpa using hkw) (by simpa using hu)
    refine⟨iI h4,fun d hd=>iI h5 d (mY hd),eO h2,fun id hid=> ?_⟩
    rw [hid] at h3
    simp only [Bool.and_eq_true,Bool.or_eq_true] at h3
    refine⟨fun h1c=>by
      have hu1:=Fv all 0 (j:=k) hok h1c (by simpa using hkw) (by simpa using hu)
      rcases h3.1 with h|h
      · rw [hu1] at h;cases h
      · exact h,h3.2.imp (fun h=>eO h) fun⟨h6,h7⟩=> ?_⟩
    obtain⟨h8,h9⟩:=wW all 0 (j:=k) h7 hok (by simpa using hkw) (by simpa using hu)
    refine⟨?_,fc h8,fun d hd=>fc h9 d (mY hd)⟩
    unfold Qr at h6
    cases e:dK κ w with
    |none=>rw [e] at h6;cases h6
    | some i=>
      rw [e] at h6
      obtain⟨i,X⟩:=i
      have h6:Nat.beq i id=true:=h6
      exact⟨X,by rw [aa h6]⟩
  have hF01:∀{w k:Nat} {ow ok:Oper},all[w]? =some ow→aU E ow.op=some 4→all[k]? =some ok→(aU E ok.op=some 0∨aU E ok.op=some 1∨aU E ok.op=some 6)→w≠k→bP (ae all []) w k=true→
      (∀t∈looks all ok,(aL (S k) t).older n0=true)∧(∀d,ok.dst=some d→(aL (S k) d).older n0=true)∧(∀d,ok.dst=some d→(aL (S (k+1)) d).older n0=true)∧
      ∀q,dK κ w=some q→(∀t∈looks all ok,(aL (S k) t).mentions q.1=false)∧(∀d,ok.dst=some d→(aL (S k) d).mentions q.1=false)∧(∀d,ok.dst=some d→(aL (S (k+1)) d).mentions q.1=false)∧(aU E ok.op=some 1→(∀t∈looks all ok,∀i∈q.2,(aL (S k) t).mentions i=false)∨qK E n0 ok.op (S k) (Hs k) q.1=true):=fun {w k ow ok} how hc hok hc01 hkw hu=>by
    obtain⟨c,v,kd,hc',he,hpre,hpost,_⟩:=hstep k (by omega) (hlt hok) _ hok
    have hu4:=Re how hc hkw hu
    have h1:wR E all (n0,κ) k ok (S k) (Hs k)=true:=by
      unfold wQ at hpre
      rcases hc01 with h|h|h<;>rw [h] at hpre
      · exact hpre
      · exact hpre
      · simp only [Bool.and_eq_true] at hpre
        exact hpre.2
    have h2:lL E all (n0,κ) k v=true:=by
      unfold oP at hpost
      rcases hc01 with h|h|h<;>rw [h] at hpost<;>exact hpost
    unfold wR at h1
    unfold lL at h2
    rw [hu4] at h1 h2
    simp only [Bool.not_true,Bool.false_or,Bool.and_eq_true] at h1 h2
    obtain⟨⟨h1a,h1b⟩,h1c⟩:=h1
    refine⟨iI h1a,fun d hd=>iI h1b d (mY hd),fun d hd=> ?_,fun id hid=> ?_⟩
    · rw [he,hd]
      exact Dw h2.1
    · have g1:=Cc h1c how hc hkw hu hid
      have g2:=Cc h2.2 how hc hkw hu hid
      simp only [Bool.and_eq_true,Bool.not_eq_true',Bool.or_eq_true] at g1 g2
      refine⟨fc g1.1.1,fun d hd=>fc g1.1.2 d (mY hd),fun d hd=> ?_,fun h1c=> ?_⟩
      · rw [he,hd]
        exact Nw g2
      · rcases g1.2 with g|g|g
        · simp [Mj,h1c] at g
        · exact .inl fun t ht i hi=>qW g i hi t ht
        · exact .inr g
  have hkill:∀{w k t:Nat} {ow ok:Oper},all[w]? =some ow→aU E ow.op=some 4→all[k]? =some ok→k≠w→bP (ae all []) k w=true→(t∈looks all ok∨ok.dst=some t)→ow.dst≠some t→aL (S (w+1)) t=aL (S w) t:=fun {w k t ow ok} how hc hok hkw hu ht hd=>by
    obtain⟨c,v,kd,hc',he,_,_,hT,_⟩:=hstep w (by omega) (hlt how) _ how
    obtain⟨g1,g2,g3,g4⟩:=hF4 how hc hok hkw hu
    rw [he,c7 hd]
    refine i4 fun id hid=> ?_
    rcases(g4 id (hT.kid id hid).2).2 with h|⟨_,h5,h6⟩
    · refine iH h _ ?_
      rcases ht with ht|ht
      · exact g1 t ht
      · exact g2 t ht
    · rcases ht with ht|ht
      · exact h5 t ht
      · exact h6 t ht
  have hlook:∀{j:Nat} {o:Oper} {t:Nat},all[j]? =some o→t∈looks all o→Uz all (fB E all S t) j:=fun {j o t} ho ht i ⟨x,hx,hw⟩=>by
    refine⟨fun hij=> ?_,fun hij=> ?_⟩
    · rcases hpair hij hx ho with h|h
      · exact h
      · rcases hw with hw|⟨hw,hne⟩
        · exact absurd ht (h.a1 t hw)
        · exact absurd (hkill hx hw ho (by omega) (hun hij h).2 (.inl ht) fun e=>h.a1 t e ht) hne
    · rcases hpair hij ho hx with h|h
      · exact h
      · rcases hw with hw|⟨hw,hne⟩
        · exact absurd ht (h.a3 t hw)
        · exact absurd (hkill hx hw ho (by omega) (hun hij h).1 (.inl ht) fun e=>h.a3 t e ht) hne
  have h44:∀{i j:Nat} {x y:Oper},Pair E all i x j y→aU E x.op=some 4→aU E y.op=some 4→False:=fun {i j x y} h h1 h2=>by
    rcases h.q with⟨h',_⟩|⟨_,h'⟩|⟨h',_⟩|h'
    · exact h' h1
    · rw [h2] at h';simp at h'
    · rw [h1] at h';simp at h'
    · rw [h2] at h';simp at h'
  have hwr:∀{j t:Nat},fB E all S t j→Uz all (fB E all S t) j:=fun {j t} hj=>by
    obtain⟨o,ho,hw⟩:=hj
    intro i ⟨x,hx,hwi⟩
    refine⟨fun hij=> ?_,fun hij=> ?_⟩
    · rcases hpair hij hx ho with h|h
      · exact h
      · rcases hwi with hwi|⟨hwi,hni⟩
        · rcases hw with hw|⟨hw,hne⟩
          · exact absurd hw (h.a2 t hwi)
          · exact absurd (hkill ho hw hx (by omega) (hun hij h).1 (.inr hwi) fun e=>h.a2 t hwi e) hne
        · rcases hw with hw|⟨hw,hne⟩
          · exact absurd (hkill hx hwi ho (by omega) (hun hij h).2 (.inr hw) fun e=>h.a2 t e hw) hni
          · exact(h44 h hwi hw).elim
    · rcases hpair hij ho hx with h|h
      · exact h
      · rcases hwi with hwi|⟨hwi,hni⟩
        · rcases hw with hw|⟨hw,hne⟩
          · exact absurd hwi (h.a2 t hw)
          · exact absurd (hkill ho hw hx (by omega) (hun hij h).2 (.inr hwi) fun e=>h.a2 t e hwi) hne
        · rcases hw with hw|⟨hw,hne⟩
          · exact absurd (hkill hx hwi ho (by omega) (hun hij h).1 (.inr hw) fun e=>h.a2 t hw e) hni
          · exact(h44 h hw hwi).elim
  have hq:∀{i:Nat} {x:Oper},bn E all i x=true→all[i]? =some x→¬b9 E all i:=fun {i x} h hx ⟨x',hx',ht⟩=>by
    have:x'=x:=Option.some.inj (hx'.symm.trans hx)
    subst this
    rcases ht with ht|ht|ht|⟨ht,hn⟩
    · simp [bn,ht] at h
    · simp [bn,ht] at h
    · simp [bn,ht] at h
    · simp only [bn,ht] at h
      exact hn h
  have hT0:∀{i:Nat} {x:Oper},all[i]? =some x→b9 E all i→aU E x.op≠some 0∧aU E x.op≠some 1:=fun {i x} hx ⟨x',hx',ht⟩=>by
    have:x'=x:=Option.some.inj (hx'.symm.trans hx)
    subst this
    rcases ht with ht|ht|ht|⟨ht,_⟩<;>rw [ht]<;>simp
  have hT6:∀{i:Nat} {x:Oper},all[i]? =some x→b9 E all i→aU E x.op≠some 6:=fun {i x} hx ⟨x',hx',ht⟩=>by
    have:x'=x:=Option.some.inj (hx'.symm.trans hx)
    subst this
    rcases ht with ht|ht|ht|⟨ht,_⟩<;>rw [ht]<;>simp
  have hR5:∀{i:Nat} {x:Oper},all[i]? =some x→oG E all i→aU E x.op≠some 5:=fun {i x} hx ⟨x',hx',ht⟩=>by
    have:x'=x:=Option.some.inj (hx'.symm.trans hx)
    subst this
    rcases ht with ht|ht<;>rw [ht]<;>simp
  have hR2:∀{i:Nat} {x:Oper},all[i]? =some x→oG E all i→aU E x.op≠some 2:=fun {i x} hx ⟨x',hx',ht⟩=>by
    have:x'=x:=Option.some.inj (hx'.symm.trans hx)
    subst this
    rcases ht with ht|ht<;>rw [ht]<;>simp
  have hRT:∀{i:Nat},oG E all i→b9 E all i:=fun {i} ⟨x,hx,ht⟩=>⟨x,hx,by
    rcases ht with ht|ht
    · exact .inl ht
    · exact .inr (.inl ht)⟩
  have h01:∀{x:Oper},(aU E x.op=some 0∨aU E x.op=some 1)→(aU E x.op≠some 0∧aU E x.op≠some 1)→False:=fun {x} h h'=>by
    rcases h with h|h
    · exact h'.1 h
    · exact h'.2 h
  have hturn:∀{j:Nat},b9 E all j→Uz all (b9 E all) j:=fun {j} hj i hi=>by
    obtain⟨o,ho,_⟩:=_root_.id hj
    obtain⟨x,hx,_⟩:=_root_.id hi
    have h1:=hT0 ho hj
    have h2:=hT0 hx hi
    refine⟨fun hij=> ?_,fun hij=> ?_⟩
    · rcases hpair hij hx ho with h|h
      · exact h
      · rcases h.q with⟨_,_,h'⟩|⟨_,h'⟩|⟨h',_⟩|h'
        · rcases h' with h'|h'|h'|h'|h'|h'|h'
          · exact absurd h' h2.1
          · exact absurd h' h1.1
          · exact absurd hi (hq h'.1 hx)
          · exact absurd hi (hq h'.1 hx)
          · exact absurd h'.2 h1.2
          · exact absurd h'.1 h2.2
          · exact absurd h'.2 h1.2
        · exact(h01 h' h1).elim
        · exact(h01 h' h2).elim
        · exact absurd h' (hT6 ho hj)
    · rcases hpair hij ho hx with h|h
      · exact h
      · rcases h.q with⟨_,_,h'⟩|⟨_,h'⟩|⟨h',_⟩|h'
        · rcases h' with h'|h'|h'|h'|h'|h'|h'
          · exact absurd h' h1.1
          · exact absurd h' h2.1
          · exact absurd hj (hq h'.1 ho)
          · exact absurd hj (hq h'.1 ho)
          · exact absurd h'.2 h2.2
          · exact absurd h'.1 h1.2
          · exact absurd h'.2 h2.2
        · exact(h01 h' h2).elim
        · exact(h01 h' h1).elim
        · exact absurd h' (hT6 hx hi)
  have hread:∀{j:Nat} {o:Oper},all[j]? =some o→bn E all j o=true→(aU E o.op=some 1→∀w x,all[w]? =some x→aU E x.op=some 4→w≠j→bP (ae all []) w j=true→False)→Uz all (oG E all) j:=fun {j o} ho hj hnu i hi=>by
    obtain⟨x,hx,_⟩:=_root_.id hi
    have hi':=hRT hi
    have h2:=hT0 hx hi'
    have h5:=hR5 hx hi
    have hj0:aU E o.op≠some 0:=fun h=>by simp [bn,h] at hj
    have hj4:aU E o.op≠some 4:=fun h=>by simp [bn,h] at hj
    have hj6:aU E o.op≠some 6:=fun h=>by simp [bn,h] at hj
    have hj5:aU E o.op≠some 5:=fun h=>by simp [bn,h] at hj
    refine⟨fun hij=> ?_,fun hij=> ?_⟩
    · rcases hpair hij hx ho with h|h
      · exact h
      · rcases h.q with⟨_,_,h'⟩|⟨h4,h'⟩|⟨_,h4⟩|h'
        · rcases h' with h'|h'|h'|h'|h'|h'|h'
          · exact absurd h' h2.1
          · exact absurd h' hj0
          · exact absurd hi' (hq h'.1 hx)
          · exact absurd hi' (hq h'.1 hx)
          · exact absurd h'.1 h5
          · exact absurd h'.1 h2.2
          · exact absurd h'.1 (hR2 hx hi)
        · rcases h' with h'|h'
          · exact absurd h' hj0
          · exact(hnu h' i x hx h4 (by omega) (hun hij h).1).elim
        · exact absurd h4 hj4
        · exact absurd h' hj6
    · rcases hpair hij ho hx with h|h
      · exact h
      · rcases h.q with⟨_,_,h'⟩|⟨h4,_⟩|⟨h',h4⟩|h'
        · rcases h' with h'|h'|h'|h'|h'|h'|h'
          · exact absurd h' hj0
          · exact absurd h' h2.1
          · exact absurd hi' (hq h'.2 hx)
          · exact absurd h'.2 h5
          · exact absurd h'.1 hj5
          · exact absurd h'.2 (hR2 hx hi)
          · exact absurd h'.2 h2.2
        · exact absurd h4 hj4
        · rcases h' with h'|h'
          · exact absurd h' hj0
          · exact(hnu h' i x hx h4 (by omega) (hun hij h).2).elim
        · exact absurd h' (hT6 hx hi')
  have hcall:∀{i j:Nat} {o:Oper},all[j]? =some o→aU E o.op=some 2→i<j→b9 E all i→Ck all i j∨¬bn E all j o=true:=fun {i j o} ho h2 hij hi=>by
    obtain⟨x,hx,_⟩:=_root_.id hi
    have h3:=hT0 hx hi
    rcases hpair hij hx ho with h|h
    · exact .inl h
    · rcases h.q with⟨_,_,h'⟩|⟨_,h'⟩|⟨_,h'⟩|h'
      · rcases h' with h'|h'|h'|h'|h'|h'|h'
        · exact absurd h' h3.1
        · rw [h2] at h';simp at h'
        · exact absurd hi (hq h'.1 hx)
        · exact absurd hi (hq h'.1 hx)
        · rw [h2] at h';simp at h'
        · exact absurd h'.1 h3.2
        · rw [h2] at h';simp at h'
      · rw [h2] at h';simp at h'
      · rw [h2] at h';simp at h'
      · rw [h2] at h';simp at h'
  have hAσ:∀t k,k<n→¬fB E all S t k→aL (S (k+1)) t=aL (S k) t:=fun t k hk hw=>by
    obtain⟨o,ho⟩:=hat hk
    obtain⟨c,v,kd,hc,he,_,_,hT,_⟩:=hstep k (by omega) hk _ ho
    by_cases h4:c=4
    · exact Classical.byContradiction fun hne=>hw ⟨_,ho,.inr ⟨by rw [hc,h4],hne⟩⟩
    · rw [he,c7 fun e=>hw ⟨_,ho,.inl e⟩]
      exact i4 fun id hid=>absurd (hT.kid id hid).1 h4
  have hchain:∀t a d,a+d≤n→(∀i,a≤i→i<a+d→¬fB E all S t i)→aL (S (a+d)) t=aL (S a) t:=by
    intro t a d
    induction d with
    |zero=>intro _ _;rfl
    | succ d ih=>
      intro h1 h2
      rw [←Nat.add_assoc,hAσ t (a+d) (by omega) (h2 (a+d) (by omega) (by omega))]
      exact ih (by omega) fun i g1 g2=>h2 i g1 (by omega)
  have hAH:∀k,k<n→¬b9 E all k→(∀o,all[k]? =some o→aU E o.op≠some 6)→Hs (k+1)=Hs k:=fun k hk hw h6=>by
    obtain⟨o,ho⟩:=hat hk
    obtain⟨c,v,kd,hc,he,_,hpost,hT,_⟩:=hstep k (by omega) hk _ ho
    have hle:=pW hc
    rcases(by omega:c≤1∨c=2∨c=3∨c=4∨c=5∨c=6) with h|h|h|h|h|h
    · exact hT.h1 h
    · by_cases hn:dj E all k=true
      · exact(Hg (by rw [hc,h]) hpost (hT.h2 h) hn).1
      · exact absurd ⟨_,ho,.inr (.inr (.inr ⟨by rw [hc,h],hn⟩))⟩ hw
    · exact absurd ⟨_,ho,.inl (by rw [hc,h])⟩ hw
    · exact absurd ⟨_,ho,.inr (.inl (by rw [hc,h]))⟩ hw
    · exact absurd ⟨_,ho,.inr (.inr (.inl (by rw [hc,h])))⟩ hw
    · exact absurd (by rw [hc,h]) (h6 o ho)
  obtain⟨isA,hisA⟩:∃isA:Nat→Prop,isA=fun i=>∃o,all[i]? =some o∧aU E o.op=some 6:=⟨_,rfl⟩
  have hA0:∀{i},isA i→∃o,all[i]? =some o∧aU E o.op=some 6:=fun h=>by rw [hisA] at h;exact h
  have hA1:∀{i o},all[i]? =some o→aU E o.op=some 6→isA i:=fun h1 h2=>by rw [hisA];exact⟨_,h1,h2⟩
  have hAT:∀{i},isA i→¬b9 E all i:=fun h ht=>by
    obtain⟨o,ho,h6⟩:=hA0 h
    exact hT6 ho ht h6
  have hAn:∀{i},isA i→i<n:=fun h=>by
    obtain⟨o,ho,h6⟩:=hA0 h
    exact hlt ho
  obtain⟨rid,hrid⟩:∃rid:Nat→Nat,rid=fun i=>b0+dA E i all:=⟨_,rfl⟩
  have hridb:∀{i},isA i→b0≤rid i∧rid i<n0:=fun h=>by
    obtain⟨o,ho,h6⟩:=hA0 h
    have:=wC all _ ho (kc h6)
    rw [hrid]
    dsimp only
    omega
  have hinj:∀{i j},isA i→isA j→rid i=rid j→i=j:=fun hi hj h=>by
    obtain⟨x,hx,h6⟩:=hA0 hi
    obtain⟨y,hy,h7⟩:=hA0 hj
    rw [hrid] at h
    dsimp only at h
    exact Db hx hy (kc h6) (kc h7) (by omega)
  have hmono:∀k,k<n→(Hs k).length≤(Hs (k+1)).length∧∀i,i<(Hs k).length→aD (Hs k) i= .dead→(isA k→i≠rid k)→aD (Hs (k+1)) i= .dead:=fun k hk=>by
    obtain⟨o,ho⟩:=hat hk
    obtain⟨c,v,kd,hc,he,_,hpost,hT,_⟩:=hstep k (by omega) hk _ ho
    have hle:=pW hc
    have happ:(∃bs,Hs (k+1)=Hs k++bs)→(Hs k).length≤(Hs (k+1)).length∧∀i,i<(Hs k).length→aD (Hs k) i= .dead→(isA k→i≠rid k)→aD (Hs (k+1)) i= .dead:=fun⟨bs,hb⟩=>by
      rw [hb]
      exact⟨by rw [List.length_append];omega,fun i hi hd _=>by rw [c8 _ _ _ hi];exact hd⟩
    rcases(by omega:c≤1∨c=2∨(c=3∨c=4)∨c=5∨c=6) with h|h|h|h|h
    · rw [hT.h1 h];exact⟨Nat.le_refl _,fun i _ hd _=>hd⟩
    · exact happ (hT.h2 h)
    · exact⟨(hT.len h).1,fun i hi hd _=>(hT.len h).2 i hi hd⟩
    · exact happ (hT.h5 h)
    · obtain⟨z,hz,_⟩:=hT.h6 h
      have hia:=hA1 ho (by rw [hc,h])
      have er:yo E all b0 k o=rid k:=by rw [hrid,yo,kc (by rw [hc,h])];rfl
      rw [er] at hz
      rw [hz]
      exact⟨by rw [aM];exact Nat.le_refl _,fun i hi hd hne=>by rw [aG,if_neg (fun e=>hne hia e.1)];exact hd⟩
  have hlen0:∀k,k≤n→n0≤(Hs k).length:=by
    intro k
    induction k with
    |zero=>intro _;rw [hH0,hn0];exact Nat.le_refl _
    |succ k ih=>intro hk;have:=(hmono k (by omega)).1;have:=ih (by omega);omega
  have hD1:∀{a k},isA a→k≤a→aD (Hs k) (rid a)= .dead:=by
    intro a k ha
    have hb:=hridb ha
    have han:=hAn ha
    induction k with
    |zero=>intro _;rw [hH0];exact hHdead _ hb.1
    | succ k ih=>
      intro hk
      exact(hmono k (by omega)).2 _ (by have:=hlen0 k (by omega);omega) (ih (by omega)) fun hka e=>by
        have:=hinj ha hka e
        omega
  have hZ:∀id,∃z:Blk,∀a,isA a→rid a=id→Hs (a+1)=aH (Hs a) id z∧∀k,ci k z=z:=fun id=>by
    by_cases hx:∃a,isA a∧rid a=id
    · obtain⟨a,ha,hr⟩:=hx
      obtain⟨o,ho,h6⟩:=hA0 ha
      obtain⟨c,v,kd,hc,he,_,hpost,hT,_⟩:=hstep a (by omega) (hlt ho) _ ho
      obtain⟨z,hz,hk⟩:=hT.h6 (by rw [hc] at h6;simpa using h6)
      have er:yo E all b0 a o=rid a:=by rw [hrid,yo,kc h6];rfl
      refine⟨z,fun a' ha' hr'=> ?_⟩
      have:a'=a:=hinj ha' ha (by rw [hr',hr])
      subst this
      rw [er,hr] at hz
      exact⟨hz,hk⟩
    · exact⟨.dead,fun a ha hr=>absurd ⟨a,ha,hr⟩ hx⟩
  obtain⟨Zr,hZr⟩:=Classical.axiomOfChoice hZ
  obtain⟨A,hA⟩:∃A:Nat→Nat→Blk,∀k id,((∃a,isA a∧rid a=id∧k≤a)→A k id=Zr id)∧((¬∃a,isA a∧rid a=id∧k≤a)→A k id=aD (Hs k) id):=by
    classical
    exact⟨fun k id=>if∃a,isA a∧rid a=id∧k≤a then Zr id else aD (Hs k) id,fun k id=>⟨fun h=>if_pos h,fun h=>if_neg h⟩⟩
  have hAsame:∀{k},k<n→¬isA k→∀id,aD (Hs (k+1)) id=aD (Hs k) id→A (k+1) id=A k id:=fun {k} hk hna id h=>by
    by_cases hx:∃a,isA a∧rid a=id∧k≤a
    · obtain⟨a,ha,hr,hka⟩:=_root_.id hx
      have:k≠a:=fun e=>hna (e▸ha)
      rw [(hA k id).1 hx,(hA (k+1) id).1 ⟨a,ha,hr,by omega⟩]
    · rw [(hA k id).2 hx,(hA (k+1) id).2 (fun⟨a,ha,hr,hka⟩=>hx ⟨a,ha,hr,by omega⟩),h]
  have hAkill:∀{k},k<n→¬isA k→∀id z,aD (Hs (k+1)) id=ci z (aD (Hs k) id)→A (k+1) id=ci z (A k id):=fun {k} hk hna id z h=>by
    by_cases hx:∃a,isA a∧rid a=id∧k≤a
    · obtain⟨a,ha,hr,hka⟩:=_root_.id hx
      have:k≠a:=fun e=>hna (e▸ha)
      rw [(hA k id).1 hx,(hA (k+1) id).1 ⟨a,ha,hr,by omega⟩,(hZr id a ha hr).2]
    · rw [(hA k id).2 hx,(hA (k+1) id).2 (fun⟨a,ha,hr,hka⟩=>hx ⟨a,ha,hr,by omega⟩),h]
  have hAno:∀k,k<n→¬b9 E all k→A (k+1)=A k:=fun k hk hw=>by
    funext id
    by_cases hak:isA k
    · by_cases hr:rid k=id
      · have h1:¬∃a,isA a∧rid a=id∧k+1≤a:=fun⟨a,ha,hr',hka⟩=>by
          have:=hinj ha hak (by rw [hr',hr])
          omega
        rw [(hA k id).1 ⟨k,hak,hr,Nat.le_refl _⟩,(hA (k+1) id).2 h1,(hZr id k hak hr).1,aG,if_pos ⟨rfl,by have:=hridb hak;have:=hlen0 k (by omega);omega⟩]
      · have e:aD (Hs (k+1)) id=aD (Hs k) id:=by
          rw [(hZr (rid k) k hak rfl).1,aG,if_neg (fun e=>hr e.1.symm)]
        by_cases hx:∃a,isA a∧rid a=id∧k≤a
        · obtain⟨a,ha,hr',hka⟩:=_root_.id hx
          have:k≠a:=fun e=>hr (by rw [e,hr'])
          rw [(hA k id).1 hx,(hA (k+1) id).1 ⟨a,ha,hr',by omega⟩]
        · rw [(hA k id).2 hx,(hA (k+1) id).2 (fun⟨a,ha,hr',hka⟩=>hx ⟨a,ha,hr',by omega⟩),e]
    · exact hAsame hk hak id (by rw [hAH k hk hw fun o ho h6=>hak (hA1 ho h6)])
  have hA5:∀k,k<n→¬oG E all k→(Hs k).length≤(Hs (k+1)).length∧∀id,id<(Hs k).length→A (k+1) id=A k id:=fun k hk hw=>by
    refine⟨(hmono k hk).1,fun id hid=> ?_⟩
    by_cases ht:b9 E all k
    · have hna:¬isA k:=fun h=>hAT h ht
      obtain⟨o,ho,ht⟩:=ht
      obtain⟨c,v,kd,hc,he,_,_,hT,_⟩:=hstep k (by omega) hk _ ho
      rcases ht with ht|ht|ht|ht
      · exact absurd ⟨o,ho,.inl ht⟩ hw
      · exact absurd ⟨o,ho,.inr ht⟩ hw
      · obtain⟨X,hX⟩:=hT.h5 (by rw [hc] at ht;simpa using ht)
        exact hAsame hk hna id (by rw [hX,c8 _ _ _ hid])
      · obtain⟨X,hX⟩:=hT.h2 (by have:=ht.1;rw [hc] at this;simpa using this)
        exact hAsame hk hna id (by rw [hX,c8 _ _ _ hid])
    · rw [hAno k hk ht]
  have hext:∀a d,a+d≤n→(∀i,a≤i→i<a+d→¬oG E all i)→∀id,id<(Hs a).length→id<(Hs (a+d)).length∧A (a+d) id=A a id:=by
    intro a d
    induction d with
    |zero=>intro _ _ id hid;exact⟨hid,rfl⟩
    | succ d ih=>
      intro h1 h2 id hid
      obtain⟨g1,g2⟩:=ih (by omega) (fun i a1 a2=>h2 i a1 (by omega)) id hid
      obtain⟨g3,g4⟩:=hA5 (a+d) (by omega) (h2 (a+d) (by omega) (by omega))
      rw [←Nat.add_assoc]
      exact⟨by omega,by rw [g4 id g1,g2]⟩
  have hsame:∀a d,a+d≤n→(∀i,a≤i→i<a+d→¬b9 E all i)→A (a+d)=A a:=by
    intro a d
    induction d with
    |zero=>intro _ _;rfl
    | succ d ih=>
      intro h1 h2
      rw [←Nat.add_assoc,hAno (a+d) (by omega) (h2 (a+d) (by omega) (by omega))]
      exact ih (by omega) fun i g1 g2=>h2 i g1 (by omega)
  have hstat6:∀{a j:Nat} {o:Oper},isA a→a<j→all[j]? =some o→aU E o.op≠some 0→aU E o.op≠some 6→Ck all a j:=fun {a j o} ha haj ho h0 h6=>by
    obtain⟨x,hx,hx6⟩:=hA0 ha
    rcases hpair haj hx ho with h|h
    · exact h
    · exfalso
      rcases h.q with⟨_,_,h'⟩|⟨h',_⟩|⟨h',_⟩|h'
      · rcases h' with h'|h'|h'|h'|h'|h'|h'
        · rw [hx6] at h';simp at h'
        · exact h0 h'
        · have:=h'.1;simp [bn,hx6] at this
        · have:=h'.1;simp [bn,hx6] at this
        · have:=h'.1;rw [hx6] at this;simp at this
        · have:=h'.1;rw [hx6] at this;simp at this
        · have:=h'.1;rw [hx6] at this;simp at this
      · rw [hx6] at h';simp at h'
      · rw [hx6] at h';simp at h'
      · exact h6 h'
  have hAl:∀k,k≤n→(S k).length=σ.length:=by
    intro k
    induction k with
    |zero=>intro _;rw [hS0]
    | succ k ih=>
      intro hk
      obtain⟨o,ho⟩:=hat (show k<n by omega)
      obtain⟨c,v,kd,hc,he,_⟩:=hstep k (by omega) (by omega) _ ho
      rw [he,oO,kX,ih (by omega)]
  have hold:∀{i j w:Nat} {x o ow:Oper},all[j]? =some o→aU E o.op=some 1→all[i]? =some x→b9 E all i→(i<j→Pair E all i x j o)→(j<i→Pair E all j o i x)→∀b,b<n0→(∀i' x' id,all[i']? =some x'→aU E x'.op=some 4→i'≠j→bP (ae all []) i' j=true→dK κ i'=some id→b≠id.1∧¬b∈id.2)→A (i+1) b=A i b:=fun {i j w x o ow} ho hc1 hx hi hp1 hp2 b hb hbk=>by
    refine hAsame (hlt hx) (fun h=>hAT h hi) b ?_
    have hij:i≠j:=fun e=>by
      subst e
      have:x=o:=Option.some.inj (hx.symm.trans ho)
      subst this
      exact(hT0 hx hi).2 hc1
    obtain⟨c,v,kd,hc,he,hpre,_,hT,_⟩:=hstep i (by omega) (hlt hx) _ hx
    have h2:=hT0 hx hi
    have h45:(aU E x.op=some 5∨aU E x.op=some 2)∨(aU E x.op=some 4∧bP (ae all []) j i=true∧bP (ae all []) i j=true):=by
      rcases Nat.lt_or_gt_of_ne hij with g|g
      · rcases(hp1 g).q with⟨_,_,h'⟩|⟨h4,_⟩|⟨h',_⟩|h'
        · rcases h' with h'|h'|h'|h'|h'|h'|h'
          · exact absurd h' h2.1
          · rw [hc1] at h';simp at h'
          · exact absurd hi (hq h'.1 hx)
          · exact absurd hi (hq h'.1 hx)
          · exact .inl (.inl h'.1)
          · exact .inl (.inr (by rw [hc1] at h';exact absurd h'.2 (by simp)))
          · exact .inl (.inr h'.1)
        · exact .inr ⟨h4,(hun g (hp1 g)).2,(hun g (hp1 g)).1⟩
        · exact(h01 h' h2).elim
        · rw [hc1] at h';simp at h'
      · rcases(hp2 g).q with⟨_,_,h'⟩|⟨h4,_⟩|⟨_,h4⟩|h'
        · rcases h' with h'|h'|h'|h'|h'|h'|h'
          · rw [hc1] at h';simp at h'
          · exact absurd h' h2.1
          · exact absurd hi (hq h'.2 hx)
          · exact .inl (.inl h'.2)
          · exact absurd h'.2 h2.2
          · exact .inl (.inr h'.2)
          · exact absurd h'.2 h2.2
        · rw [hc1] at h4;simp at h4
        · exact .inr ⟨h4,(hun g (hp2 g)).1,(hun g (hp2 g)).2⟩
        · exact absurd h' (hT6 hx hi)
    rcases h45 with(h5|h5)|⟨h4,hu,hu'⟩
    · obtain⟨X,hX⟩:=hT.h5 (by rw [hc] at h5;simpa using h5)
      unfold wQ at hpre
      rw [h5] at hpre
      have:=eO hpre
      rw [hX,c8 _ _ _ (by omega)]
    · obtain⟨X,hX⟩:=hT.h2 (by rw [hc] at h5;simpa using h5)
      have:=hlen0 i (by have:=hlt hx;omega)
      rw [hX,c8 _ _ _ (by omega)]
    · obtain⟨g1,g2,g3,g4⟩:=hF4 hx h4 ho (fun e=>hij e.symm) hu
      refine hT.h4 (by rw [hc] at h4;simpa using h4) b (by omega) (fun id hid=>nR n0 0 (Hs i) ((g4 id hid).1 hc1) hb fun hm=> ?_) fun id hid e=> ?_
      · unfold xP at hm
        cases hq:dK κ i with
        |none=>rw [hq] at hm;cases hm
        |some q=>rw [hq] at hm;exact(hbk i x q hx h4 hij hu' hq).2 (by simpa using hm)
      · rcases(g4 id hid).2 with h|⟨⟨X,h⟩,_⟩
        · omega
        · exact(hbk i x (id,X) hx h4 hij hu' h).1 e
  have hold2:∀{i j:Nat} {x o:Oper},all[j]? =some o→aU E o.op=some 1→all[i]? =some x→b9 E all i→(i<j→Pair E all i x j o)→(j<i→Pair E all j o i x)→∀b,b<n0→(∀i' x' id,all[i']? =some x'→aU E x'.op=some 4→i'≠j→bP (ae all []) i' j=true→dK κ i'=some id→b≠id.1)→
      A (i+1) b=A i b∨∃z,A (i+1) b=ci z (A i b)∧(n0≤z∨∃q,aU E x.op=some 4∧i≠j∧bP (ae all []) i j=true∧dK κ i=some q∧b∈q.2∧z=q.1):=fun {i j x o} ho hc1 hx hi hp1 hp2 b hb hbk=>by
    have hs1:=fun h=>hAsame (hlt hx) (fun h=>hAT h hi) b h
    have hij:i≠j:=fun e=>by
      subst e
      have:x=o:=Option.some.inj (hx.symm.trans ho)
      subst this
      exact(hT0 hx hi).2 hc1
    obtain⟨c,v,kd,hc,he,hpre,_,hT,_⟩:=hstep i (by omega) (hlt hx) _ hx
    have h2:=hT0 hx hi
    have h45:(aU E x.op=some 5∨aU E x.op=some 2)∨(aU E x.op=some 4∧bP (ae all []) j i=true∧bP (ae all []) i j=true):=by
      rcases Nat.lt_or_gt_of_ne hij with g|g
      · rcases(hp1 g).q with⟨_,_,h'⟩|⟨h4,_⟩|⟨h',_⟩|h'
        · rcases h' with h'|h'|h'|h'|h'|h'|h'
          · exact absurd h' h2.1
          · rw [hc1] at h';simp at h'
          · exact absurd hi (hq h'.1 hx)
          · exact absurd hi (hq h'.1 hx)
          · exact .inl (.inl h'.1)
          · exact .inl (.inr (by rw [hc1] at h';exact absurd h'.2 (by simp)))
          · exact .inl (.inr h'.1)
        · exact .inr ⟨h4,(hun g (hp1 g)).2,(hun g (hp1 g)).1⟩
        · exact(h01 h' h2).elim
        · rw [hc1] at h';simp at h'
      · rcases(hp2 g).q with⟨_,_,h'⟩|⟨h4,_⟩|⟨_,h4⟩|h'
        · rcases h' with h'|h'|h'|h'|h'|h'|h'
          · rw [hc1] at h';simp at h'
          · exact absurd h' h2.1
          · exact absurd hi (hq h'.2 hx)
          · exact .inl (.inl h'.2)
          · exact absurd h'.2 h2.2
          · exact .inl (.inr h'.2)
          · exact absurd h'.2 h2.2
        · rw [hc1] at h4;simp at h4
        · exact .inr ⟨h4,(hun g (hp2 g)).1,(hun g (hp2 g)).2⟩
        · exact absurd h' (hT6 hx hi)
    rcases h45 with(h5|h5)|⟨h4,hu,hu'⟩
    · obtain⟨X,hX⟩:=hT.h5 (by rw [hc] at h5;simpa using h5)
      unfold wQ at hpre
      rw [h5] at hpre
      have:=eO hpre
      exact .inl (hs1 (by rw [hX,c8 _ _ _ (by omega)]))
    · obtain⟨X,hX⟩:=hT.h2 (by rw [hc] at h5;simpa using h5)
      have:=hlen0 i (by have:=hlt hx;omega)
      exact .inl (hs1 (by rw [hX,c8 _ _ _ (by omega)]))
    · obtain⟨g1,g2,g3,g4⟩:=hF4 hx h4 ho (fun e=>hij e.symm) hu
      rcases hT.h4k (by rw [hc] at h4;simpa using h4) b (by omega) (fun id hid e=>by
        rcases(g4 id hid).2 with h|⟨⟨X,h⟩,_⟩
        · omega
        · exact hbk i x (id,X) hx h4 hij hu' h e) with h|⟨id,hid,h⟩
      · exact .inl (hs1 h)
      · by_cases hm:b∈xP κ i
        · refine .inr ⟨id,hAkill (hlt hx) (fun h=>hAT h hi) b id h,?_⟩
          rcases(g4 id hid).2 with h|⟨⟨X,hX⟩,_⟩
          · exact .inl h
          · refine .inr ⟨(id,X),h4,hij,hu',hX,?_,rfl⟩
            unfold xP at hm
            rw [hX] at hm
            exact hm
        · exact .inl (hs1 (h.trans (nR n0 0 (Hs i) ((g4 id hid).1 hc1) hb fun hm'=>hm (by simpa using hm'))))
  have holds:∀b a d,a+d≤n→(∀i,a≤i→i<a+d→b9 E all i→A (i+1) b=A i b)→A (a+d) b=A a b:=by
    intro b a d
    induction d with
    |zero=>intro _ _;rfl
    | succ d ih=>
      intro h1 h2
      rw [←Nat.add_assoc,←ih (by omega) (fun i g1 g2=>h2 i g1 (by omega))]
      by_cases ht:b9 E all (a+d)
      · exact h2 (a+d) (by omega) (by omega) ht
      · rw [hAno (a+d) (by omega) ht]
  obtain⟨cf,hcf⟩:∃cf:(Nat→Prop)→List Blk→Nat→Blk,∀L H id,((∃a,isA a∧rid a=id∧¬L a)→cf L H id=Zr id)∧((¬∃a,isA a∧rid a=id∧¬L a)→cf L H id=aD H id):=by
    classical
    exact⟨fun L H id=>if∃a,isA a∧rid a=id∧¬L a then Zr id else aD H id,fun L H id=>⟨fun h=>if_pos h,fun h=>if_neg h⟩⟩
  have main:∀(fuel:Nat) (listed:Array Bool) (σ':List V) (H:List Blk) (a:Act) (w:World),listed.size=n→Wa all (fun i=>listed.getD i false=true)→
      (List.range n).countP (fun i=> !listed.getD i true)≤fuel→
      (∀t,Lc n (fun i=>listed.getD i false=true) (fB E all S t) (fun k=>aL (S k) t) (aL σ' t))→
      Lc n (fun i=>listed.getD i false=true) (b9 E all) A (cf (fun i=>listed.getD i false=true) H)→
      Lc n (fun i=>listed.getD i false=true) (b9 E all) (fun k=>(Hs k).length) H.length→
      (∀a,isA a→¬listed.getD a false=true→aD H (rid a)= .dead∧rid a<H.length)→
      σ'.length=σ.length→
      fD E Ss σ' H a w→wpAnyIn (vO ro) 0 P .any ops Q fuel listed a w:=by
    have hend:∀(listed:Array Bool) (σ':List V) (H:List Blk) (a:Act) (w:World),listed.size=n→
      (∀t,Lc n (fun i=>listed.getD i false=true) (fB E all S t) (fun k=>aL (S k) t) (aL σ' t))→
      Lc n (fun i=>listed.getD i false=true) (b9 E all) A (cf (fun i=>listed.getD i false=true) H)→
      Lc n (fun i=>listed.getD i false=true) (b9 E all) (fun k=>(Hs k).length) H.length→
      σ'.length=σ.length→
      fD E Ss σ' H a w→Region.ready .any ops listed= []→Q .normal a w:=by
      intro listed σ' H a w hsz hσ hH hHl hl hs hr
      have hfull:∀j,j<n→listed.getD j false=true:=by
        intro j
        induction j using Nat.strongRecOn with
        | _ j ih=>
          intro hj
          by_cases h:listed.getD j false=true
          · exact h
          · exfalso
            obtain⟨o,ho⟩:=hat hj
            have hjs:j<listed.size:=by omega
            have:j∈Region.ready .any ops listed:=by
              rw [mem_ready]
              refine⟨by simpa [hjs] using h,o,by rw [hget];exact ho,fun e he hb=> ?_⟩
              have:=(hstat j _ (by omega) ho).2.1 e he hb
              exact ih e.on this (by omega)
            rw [hr] at this
            cases this
      have hge:∀{W:Nat→Prop},(∀i,W i→∃x,all[i]? =some x)→∀i,n≤i→W i→¬listed.getD i false=true:=fun hW i hi hw=>by
        obtain⟨x,hx⟩:=hW i hw
        have:=hlt hx
        omega
      have e1:∀t,aL σ' t=aL (S n) t:=fun t=>hσ t n (Nat.le_refl _) (fun i hi _=>hfull i hi) (hge fun i ⟨x,hx,_⟩=>⟨x,hx⟩)
      have e2:H=Hs n:=by
        refine ke (hHl n (Nat.le_refl _) (fun i hi _=>hfull i hi) (hge fun i ⟨x,hx,_⟩=>⟨x,hx⟩)) fun id=> ?_
        have h1:=congrFun (hH n (Nat.le_refl _) (fun i hi _=>hfull i hi) (hge fun i ⟨x,hx,_⟩=>⟨x,hx⟩)) id
        rw [(hcf _ H id).2 (fun⟨a,ha,_,hL⟩=>hL (hfull a (hAn ha))),(hA n id).2 (fun⟨a,ha,_,hk⟩=>by have:=hAn ha;omega)] at h1
        exact h1
      have e3:σ'.length=(S n).length:=by rw [hl,hAl n (Nat.le_refl _)]
      have e4:σ'=S n:=xH e3 e1
      subst e2
      rw [e4] at hs
      exact hQ _ _ _ _ hKn hs
    intro fuel
    induction fuel with
    | zero=>
      intro listed σ' H a w hsz hclo hcnt hσ hH hHl hdd hl hs
      have hr:Region.ready .any ops listed= []:=by
        refine List.eq_nil_iff_forall_not_mem.2 fun j hj=> ?_
        obtain⟨h0,o,ho,_⟩:=mem_ready.1 hj
        rw [hget] at ho
        have h1:(List.range n).countP (fun i=> !listed.getD i true)=0:=by omega
        rw [List.countP_eq_zero] at h1
        have:=h1 j (List.mem_range.2 (hlt ho))
        rw [h0] at this
        simp at this
      exact⟨hr,hend listed σ' H a w hsz hσ hH hHl hl hs hr⟩
    | succ fuel ih=>
      intro listed σ' H a w hsz hclo hcnt hσ hH hHl hdd hl hs
      refine⟨hend listed σ' H a w hsz hσ hH hHl hl hs,fun j hj=> ?_⟩
      obtain⟨h0,o,ho,hwait⟩:=mem_ready.1 hj
      have ho':=ho
      rw [hget] at ho
      have hjn:=hlt ho
      have hjs:j<listed.size:=by omega
      have hnot:¬listed.getD j false=true:=by simp [hjs] at h0 ⊢;exact h0
      have hset:∀i,(listed.setIfInBounds j true).getD i false=true↔(listed.getD i false=true∨i=j):=fun i=>by
        by_cases hij:j=i
        · subst hij;simp [hjs]
        · rw [getD_set_ne false hij]
          constructor
          · exact .inl
          · rintro(h|h)
            · exact h
            · exact absurd h.symm hij
      have hclo':Wa all fun i=>listed.getD i false=true∨i=j:=by
        intro k ok hk hL e he hb
        rcases hL with hL|hL
        · exact .inl (hclo k ok hk hL e he hb)
        · subst hL
          have:ok=o:=Option.some.inj (hk.symm.trans ho)
          subst this
          exact .inl (hwait e he hb)
      have hfun:(fun i=>(listed.setIfInBounds j true).getD i false=true)=fun i=>listed.getD i false=true∨i=j:=funext fun i=>propext (hset i)
      obtain⟨c,v,kd,hc,heS,hpre,hpost,hT,hrun⟩:=hstep j (by omega) hjn o ho
      have hlenj:σ'.length=(S j).length:=by rw [hl,hAl j (by omega)]
      have hσj:∀t∈looks all o,aL σ' t=aL (S j) t:=fun t ht=>(hσ t).read (hlook ho ht) (by omega) hclo hclo' hnot
      have hbef:∀{i:Nat},i<j→¬listed.getD i false=true→¬Ck all i j:=fun hij hnl hb=>by
        rcases hb _ hclo' (.inr rfl) with g|g
        · exact hnl g
        · omega
      have haft:∀{i:Nat},listed.getD i false=true→¬Ck all j i:=fun hL hb=>hnot (hb _ hclo hL)
      have hqt:∀{q:Prop},q=(c≤1∨(c=2∧dj E all j=true)∨c=6)→(q↔¬b9 E all j):=fun {q} hq'=>by
        subst hq'
        have hle:=pW hc
        constructor
        · rintro h ⟨o2,ho2,ht⟩
          have:o2=o:=Option.some.inj (ho2.symm.trans ho)
          subst this
          rw [hc] at ht
          rcases ht with ht|ht|ht|⟨ht,hn⟩<;>simp only [Option.some.injEq] at ht
          · omega
          · omega
          · omega
          · rcases h with h|h|h
            · omega
            · exact hn h.2
            · omega
        · intro h
          rcases(by omega:c≤1∨c=2∨c=3∨c=4∨c=5∨c=6) with h'|h'|h'|h'|h'|h'
          · exact .inl h'
          · by_cases hn:dj E all j=true
            · exact .inr (.inl ⟨h',hn⟩)
            · exact absurd ⟨o,ho,.inr (.inr (.inr ⟨by rw [hc,h'],hn⟩))⟩ h
          · exact absurd ⟨o,ho,.inl (by rw [hc,h'])⟩ h
          · exact absurd ⟨o,ho,.inr (.inl (by rw [hc,h']))⟩ h
          · exact absurd ⟨o,ho,.inr (.inr (.inl (by rw [hc,h'])))⟩ h
          · exact .inr (.inr h')
      have hdone:∀{a},isA a→a<j→c≠0→c≠6→listed.getD a false=true:=fun ha haj h0 h6=>by
        rcases(hstat6 ha haj ho (by rw [hc];simpa using h0) (by rw [hc];simpa using h6)) _ hclo' (.inr rfl) with g|g
        · exact g
        · omega
      have hfar:∀(W:Nat→Prop),(∀i,W i→∃x,all[i]? =some x)→(∀{i},W i→Uz all W i)→∃k,k≤n∧(∀i,k≤i→W i→¬listed.getD i false=true)∧∀i,i<k→W i→listed.getD i false=true:=fun W hW hC=>by
        by_cases hx:∃i,W i∧¬listed.getD i false=true
        · obtain⟨k,⟨h1,h2⟩,h3⟩:=Qq hx
          obtain⟨x,hx'⟩:=hW k h1
          have hkn:=hlt hx'
          have ha:∀i,i<k→W i→listed.getD i false=true:=fun i hi ht=>Classical.byContradiction fun hnl=>h3 i hi ⟨ht,hnl⟩
          have hb:∀i,k≤i→W i→¬listed.getD i false=true:=fun i hi ht hL=>by
            rcases Nat.lt_or_ge k i with g|g
            · exact h2 ((hC ht k h1).1 g _ hclo hL)
            · have:i=k:=by omega
              subst this
              exact h2 hL
          exact⟨k,by omega,hb,ha⟩
        · have ha:∀i,i<n→W i→listed.getD i false=true:=fun i hi ht=>Classical.byContradiction fun hnl=>hx ⟨i,ht,hnl⟩
          have hb:∀i,n≤i→W i→¬listed.getD i false=true:=fun i hi ht=>by
            obtain⟨x,hx'⟩:=hW i ht
            have:=hlt hx'
            omega
          exact⟨n,Nat.le_refl _,hb,ha⟩
      obtain⟨k,hkn,hkb,hka⟩:=hfar (b9 E all) (fun i ⟨x,hx,_⟩=>⟨x,hx⟩) hturn
      have hHk:cf (fun i=>listed.getD i false=true) H=A k:=hH k hkn hka hkb
      have hHlk:H.length=(Hs k).length:=hHl k hkn hka hkb
      have hlive:c≠0→c≠6→∀id,aD (Hs j) id≠ .dead→A j id=aD (Hs j) id∧aD H id=A k id:=fun h0 h6 id hd=>by
        have h1:¬∃a,isA a∧rid a=id∧j≤a:=fun⟨a,ha,hr,hja⟩=>hd (by rw [←hr];exact hD1 ha hja)
        refine⟨(hA j id).2 h1,?_⟩
        rw [←hHk,(hcf _ H id).2 (fun⟨a,ha,hr,hL⟩=>by
          rcases Nat.lt_or_ge a j with g|g
          · exact hL (hdone ha g h0 h6)
          · exact h1 ⟨a,ha,hr,g⟩)]
      have hrel:bn E all j o=true→(aU E o.op=some 1→∀w x,all[w]? =some x→aU E x.op=some 4→w≠j→bP (ae all []) w j=true→False)→(k≤j∧∀id,id<H.length→A j id=A k id)∨(∀id,id<(Hs j).length→A k id=A j id):=fun hqj hnu=>by
        rcases Nat.lt_or_ge j k with hlt'|hge'
        · refine .inr fun id hid=> ?_
          have:=(hext j (k-j) (by omega) (fun i h1 h2 hR=>by
            rcases Nat.lt_or_ge j i with g|g
            · exact hnot (((hread ho hqj hnu i hR).2 g) _ hclo (hka i (by omega) (hRT hR)))
            · have:i=j:=by omega
              subst this
              exact hq hqj ho (hRT hR)) id hid).2
          rwa [show j+(k-j)=k by omega] at this
        · refine .inl ⟨hge',fun id hid=> ?_⟩
          have:=(hext k (j-k) (by omega) (fun i h1 h2 hR=>by
            rcases((hread ho hqj hnu i hR).1 (by omega)) _ hclo' (.inr rfl) with g|g
            · exact hkb i h1 (hRT hR) g
            · omega) id (by omega)).2
          rwa [show k+(j-k)=j by omega] at this
      have hq1:c=1→bn E all j o=true:=fun h=>by unfold bn;rw [hc,h];rfl
      have hq2:c=2→dj E all j=true→bn E all j o=true:=fun h hn=>by unfold bn;rw [hc,h];exact hn
      obtain⟨Ff,hFf⟩:∃Ff:Nat→Option Blk,∀id,((∃a,isA a∧rid a=id∧j<a∧listed.getD a false=true)→Ff id=some (Zr id))∧((¬∃a,isA a∧rid a=id∧j<a∧listed.getD a false=true)→Ff id=none):=by
        classical
        exact⟨fun id=>if∃a,isA a∧rid a=id∧j<a∧listed.getD a false=true then some (Zr id) else none,fun id=>⟨fun h=>if_pos h,fun h=>if_neg h⟩⟩
      have hFk:∀m,j≤m→m≤j+1→Fok Ff (Hs m):=fun m hm1 hm2=>⟨fun id b e=>by
        by_cases hx:∃a,isA a∧rid a=id∧j<a∧listed.getD a false=true
        · rw [(hFf id).1 hx] at e
          obtain rfl:Zr id=b:=by simpa using e
          obtain⟨a,ha,hr,hja,hL⟩:=hx
          refine⟨by rw [←hr];exact hD1 ha (by omega),?_,(hZr id a ha hr).2⟩
          have:=hridb ha
          have:=hlen0 m (by omega)
          omega
        · rw [(hFf id).2 hx] at e;cases e⟩
      have hHj:b9 E all j→H=ah Ff (Hs j):=fun ht=>by
        have hc0:c≠0:=fun h=>(hqt rfl).1 (.inl (by omega)) ht
        have hc6:c≠6:=fun h=>(hqt rfl).1 (.inr (.inr h)) ht
        have h1:cf (fun i=>listed.getD i false=true) H=A j:=hH.read (hturn ht) (by omega) hclo hclo' hnot
        have h2:H.length=(Hs j).length:=hHl.read (hturn ht) (by omega) hclo hclo' hnot
        refine ke (by rw [ab,h2]) fun id=> ?_
        rw [(hFk j (Nat.le_refl _) (by omega)).get]
        have h3:=congrFun h1 id
        by_cases hx:∃a,isA a∧rid a=id∧j≤a
        · obtain⟨a,ha,hr,hja⟩:=_root_.id hx
          have hne:j≠a:=fun e=>hAT (e▸ha) ht
          by_cases hL:listed.getD a false=true
          · rw [(hA j id).1 hx,(hcf _ H id).2 (fun⟨a',ha',hr',hL'⟩=>hL' (by rw [hinj ha' ha (by rw [hr',hr])];exact hL))] at h3
            rw [h3,(hFf id).1 ⟨a,ha,hr,by omega,hL⟩];rfl
          · rw [(hFf id).2 (fun⟨a',ha',hr',_,hL'⟩=>hL (by rw [hinj ha ha' (by rw [hr',hr])];exact hL'))]
            have e1:=(hdd a ha hL).1
            have e2:=hD1 ha hja
            rw [hr] at e1 e2
            rw [e1,e2];rfl
        · rw [(hA j id).2 hx,(hcf _ H id).2 (fun⟨a,ha,hr,hL⟩=>by
            rcases Nat.lt_or_ge a j with g|g
            · exact hL (hdone ha g hc0 hc6)
            · exact hx ⟨a,ha,hr,g⟩)] at h3
          rw [h3,(hFf id).2 (fun⟨a,ha,hr,hja,_⟩=>hx ⟨a,ha,hr,by omega⟩)];rfl
      obtain⟨H3,hH3a,hH36,hH3b⟩:∃H3,((c≤1∨(c=2∧dj E all j=true))→H3=H)∧(c=6→H3=aH H (rid j) (Zr (rid j)))∧(b9 E all j→H3=ah Ff (Hs (j+1))):=by
        by_cases h:c≤1∨(c=2∧dj E all j=true)
        · exact⟨H,fun _=>rfl,fun h'=>by omega,fun h'=>absurd h' ((hqt rfl).1 (h.imp_right .inl))⟩
        · by_cases h6:c=6
          · exact⟨_,fun h'=>absurd h' h,fun _=>rfl,fun h'=>absurd h' ((hqt rfl).1 (.inr (.inr h6)))⟩
          · exact⟨_,fun h'=>absurd h' h,fun h'=>absurd h' h6,fun _=>rfl⟩
      obtain⟨cc,bx0,v0,hS0',hst0,hσ0,hd0⟩:=_root_.id hs
      have hridj:c=6→yo E all b0 j o=rid j:=fun h=>by rw [hrid,yo,kc (by rw [hc,h])];rfl
      have hel:zj E o.op c (yo E all b0 j o) (dj E all j=true) (S j) (Hs j) (Hs (j+1)) H H3:=by
        by_cases hquiet:c≤1∨(c=2∧dj E all j=true)
        · have e3:=hH3a hquiet
          have h3:c=0∨c=1∨(c=2∧dj E all j=true):=by
            rcases hquiet with h|h
            · omega
            · exact .inr (.inr h)
          rcases h3 with h|h|⟨h,hn⟩
          · exact .inr (.inl ⟨h,e3⟩)
          · by_cases hu4:∃w x,all[w]? =some x∧aU E x.op=some 4∧w≠j∧bP (ae all []) w j=true
            · obtain⟨w',x',hw1,hw2,hw3,hw4⟩:=hu4
              have hc1:aU E o.op=some 1:=by rw [hc,h]
              obtain⟨g1,_,_⟩:=hF01 hw1 hw2 ho (.inr (.inl hc1)) hw3 hw4
              refine .inr (.inr (.inl ⟨h,fun x hx id ht hd=> ?_,e3⟩))
              have hid:=Jk hG g1 hx ht
              have hidn:∀i' x' q,all[i']? =some x'→aU E x'.op=some 4→i'≠j→bP (ae all []) i' j=true→dK κ i'=some q→id≠q.1:=fun i' x' q y1 y2 y3 y4 y5 e=>by
                obtain⟨t,ht1,ht2⟩:=uc hG (all:=all) hx ht
                have hh:=(hF01 y1 y2 ho (.inr (.inl hc1)) y3 y4).2.2.2 q y5
                have:=hh.1 t ht1
                rw [←e,tX ht2] at this
                cases this
              obtain⟨l1,l2⟩:=hlive (by omega) (by omega) id hd
              by_cases hex:∃i' x' q,all[i']? =some x'∧aU E x'.op=some 4∧i'≠j∧bP (ae all []) i' j=true∧dK κ i'=some q∧id∈q.2
              · right
                have hrd:∀i' x' q,all[i']? =some x'→aU E x'.op=some 4→i'≠j→bP (ae all []) i' j=true→dK κ i'=some q→id∈q.2→qK E n0 o.op (S j) (Hs j) q.1=true:=fun i' x' q y1 y2 y3 y4 y5 e=>by
                  obtain⟨t,ht1,ht2⟩:=uc hG (all:=all) hx ht
                  rcases((hF01 y1 y2 ho (.inr (.inl hc1)) y3 y4).2.2.2 q y5).2.2.2 hc1 with g|g
                  · have:=g t ht1 id e
                    rw [tX ht2] at this
                    cases this
                  · exact g
                obtain⟨i1,x1,q1,y1,y2,y3,y4,y5,y6⟩:=hex
                obtain⟨cs,cc1,ecs,hshape,hcell⟩:=He (hrd i1 x1 q1 y1 y2 y3 y4 y5 y6) hx ht
                have hkin:∀z,(n0≤z∨∃i' x' q,all[i']? =some x'∧aU E x'.op=some 4∧i'≠j∧bP (ae all []) i' j=true∧dK κ i'=some q∧id∈q.2∧z=q.1)→∀jj,cc1=some jj→(aL cs jj).mentions z=false∧aL cs jj≠ .undef:=fun z hz jj ejj=>by
                  rcases hz with hz|⟨i',x',q,z1,z2,z3,z4,z5,z6,rfl⟩
                  · obtain⟨c1,c2,c3⟩:=hcell q1.1 (hrd i1 x1 q1 y1 y2 y3 y4 y5 y6) jj ejj
                    exact⟨iH hz _ c3,c2⟩
                  · obtain⟨c1,c2,c3⟩:=hcell q.1 (hrd i' x' q z1 z2 z3 z4 z5 z6) jj ejj
                    exact⟨c1,c2⟩
                have hstp:∀i,((j≤i∧i<k)∨(k≤i∧i<j))→(Pd cs cc1 (A i id)↔Pd cs cc1 (A (i+1) id)):=fun i hi2=>by
                  by_cases htn:b9 E all i
                  · obtain⟨y,hy,_⟩:=_root_.id htn
                    rcases hold2 ho hc1 hy htn (fun g=>by
                      rcases hi2 with hi2|hi2
                      · omega
                      · rcases hpair g hy ho with hb|hb
                        · exact absurd hb (hbef g (hkb i hi2.1 htn))
                        · exact hb) (fun g=>by
                      rcases hi2 with hi2|hi2
                      · rcases hpair g ho hy with hb|hb
                        · exact absurd hb (haft (hka i (by omega) htn))
                        · exact hb
                      · omega) id hid hidn with h|⟨z,h,hz⟩
                    · rw [h]
                    · rw [h]
                      refine(Na (hkin z (hz.imp_right fun⟨q,z2,z3,z4,z5,z6,z7⟩=>⟨i,y,q,hy,z2,z3,z4,z5,z6,z7⟩)) _).symm
                  · rw [hAno i (by omega) htn]
                have hch:∀a d,(∀i,a≤i→i<a+d→(Pd cs cc1 (A i id)↔Pd cs cc1 (A (i+1) id)))→(Pd cs cc1 (A a id)↔Pd cs cc1 (A (a+d) id)):=by
                  intro a d
                  induction d with
                  |zero=>intro _;exact Iff.rfl
                  |succ d ih=>intro hh;exact(ih fun i g1 g2=>hh i g1 (by omega)).trans (hh (a+d) (by omega) (by omega))
                have hj0:Pd cs cc1 (A j id):=⟨cs,by rw [l1,ecs],rfl,fun _ _=>rfl⟩
                have hk0:Pd cs cc1 (A k id):=by
                  rcases Nat.lt_or_ge j k with hlt'|hge'
                  · have:=(hch j (k-j) fun i h1 h2=>hstp i (.inl ⟨h1,by omega⟩)).1 hj0
                    rwa [show j+(k-j)=k by omega] at this
                  · refine(hch k (j-k) fun i h1 h2=>hstp i (.inr ⟨h1,by omega⟩)).2 ?_
                    rwa [show k+(j-k)=j by omega]
                obtain⟨cs2,p1,p2,p3⟩:=hk0
                rw [l2,ecs]
                exact⟨cs,cs2,rfl,p1,p2,hshape cs2 p3⟩
              left
              have hidk:∀i' x' q,all[i']? =some x'→aU E x'.op=some 4→i'≠j→bP (ae all []) i' j=true→dK κ i'=some q→id≠q.1∧¬id∈q.2:=fun i' x' q y1 y2 y3 y4 y5=>⟨hidn i' x' q y1 y2 y3 y4 y5,fun e=>hex ⟨i',x',q,y1,y2,y3,y4,y5,e⟩⟩
              rw [l2,←l1]
              rcases Nat.lt_or_ge j k with hlt'|hge'
              · have:=holds id j (k-j) (by omega) (fun i h1 h2 hi=>by
                  obtain⟨y,hy,_⟩:=_root_.id hi
                  refine hold (w:=w') (ow:=x') ho hc1 hy hi (fun g=>by omega) (fun g=> ?_) id hid hidk
                  rcases hpair g ho hy with hb|hb
                  · exact absurd hb (haft (hka i (by omega) hi))
                  · exact hb)
                rwa [show j+(k-j)=k by omega] at this
              · have:=holds id k (j-k) (by omega) (fun i h1 h2 hi=>by
                  obtain⟨y,hy,_⟩:=_root_.id hi
                  refine hold (w:=w') (ow:=x') ho hc1 hy hi (fun g=> ?_) (fun g=>by omega) id hid hidk
                  rcases hpair g hy ho with hb|hb
                  · exact absurd hb (hbef g (hkb i h1 hi))
                  · exact hb)
                rw [show k+(j-k)=j by omega] at this
                exact this.symm
            · refine .inr (.inr (.inl ⟨h,fun x hx id ht hd=> .inl ?_,e3⟩))
              obtain⟨l1,l2⟩:=hlive (by omega) (by omega) id hd
              rw [l2,←l1]
              rcases hrel (hq1 h) (fun _ w' x' g1 g2 g3 g4=>hu4 ⟨w',x',g1,g2,g3,g4⟩) with⟨_,hX⟩|hX
              · have hag:cA E o.op (S j) σ':=cA.of hσj
                have hev:ev E σ' x=ev E (S j) x:=s4 (hag x hx)
                have hr:=bK hst0 hσ0 x
                rw [hev] at hr
                exact(hX id (Rh hr ht)).symm
              · exact hX id (jr hd)
          · refine .inr (.inr (.inr (.inl ⟨h,hn,fun id hd=> ?_,e3⟩)))
            obtain⟨l1,l2⟩:=hlive (by omega) (by omega) id hd
            rw [l2,←l1]
            rcases hrel (hq2 h hn) (fun h'=>by rw [hc,h] at h';simp at h') with⟨hkj,_⟩|hX
            · have e:A (k+(j-k))=A k:=hsame k (j-k) (by omega) fun i h1 h2 ht=>by
                rcases hcall ho (by rw [hc,h]) (by omega:i<j) ht with hb|hb
                · exact hbef (by omega) (hkb i h1 ht) hb
                · exact hb (hq2 h hn)
              rw [show k+(j-k)=j by omega] at e
              rw [e]
            · exact hX id (jr hd)
        · by_cases h6:c=6
          · have hja:isA j:=hA1 ho (by rw [hc,h6])
            obtain⟨d1,d2⟩:=hdd j hja hnot
            rw [hridj h6]
            refine .inr (.inr (.inr (.inr ⟨h6,d1,d2,fun z hz=> ?_⟩)))
            have h1:=(hZr (rid j) j hja rfl).1
            have hl:rid j<(Hs j).length:=by have:=hridb hja;have:=hlen0 j (by omega);omega
            have h2:=congrArg (fun H=>aD H (rid j)) (h1.symm.trans hz)
            rw [aG,aG,if_pos ⟨rfl,hl⟩,if_pos ⟨rfl,hl⟩] at h2
            rw [hH36 h6,h2]
          · have ht:b9 E all j:=Classical.byContradiction fun hn=>by
              rcases(hqt rfl).2 hn with h|h|h
              · exact hquiet (.inl h)
              · exact hquiet (.inr h)
              · exact h6 h
            have hle:=pW hc
            exact .inl ⟨by omega,by omega,Ff,hFk j (Nat.le_refl _) (by omega),hHj ht,hH3b ht⟩
      have hkeep:∀t,¬fB E all S t j→aL (bJ kd σ') t=aL σ' t:=fun t hw=>by
        have hdt:o.dst≠some t:=fun e=>hw ⟨o,ho,.inl e⟩
        by_cases h4:c=4
        · have hc4:aU E o.op=some 4:=by rw [hc,h4]
          have heq:aL σ' t=aL (S j) t→aL (bJ kd σ') t=aL σ' t:=fun e=>by
            have:=hAσ t j hjn hw
            rw [heS,c7 hdt] at this
            rw [oU e,this,e]
          have holder:∀{i:Nat} {x:Oper},all[i]? =some x→i≠j→bP (ae all []) i j=true→(aL σ' t).older n0=true→(∀q,dK κ j=some q→(aL σ' t).mentions q.1=false)→aL (bJ kd σ') t=aL σ' t:=fun hx hne hu ho2 ho3=>by
            obtain⟨_,_,_,g4⟩:=hF4 ho hc4 hx hne hu
            exact i4 fun id hid=>by
              rcases(g4 id (hT.kid id hid).2).2 with h|⟨⟨X,h⟩,_⟩
              · exact iH h _ ho2
              · exact ho3 (id,X) h
          obtain⟨u,hun',hub,hua⟩:=hfar (fB E all S t) (fun i ⟨x,hx,_⟩=>⟨x,hx⟩) hwr
          have hcur:aL σ' t=aL (S u) t:=hσ t u hun' hua hub
          have hw01:∀{i:Nat} {x:Oper},all[i]? =some x→fB E all S t i→(aU E x.op=some 0∨aU E x.op=some 1∨aU E x.op=some 6)→x.dst=some t:=fun hx ⟨x',hx',hw'⟩ h'=>by
            have:x'=_:=Option.some.inj (hx'.symm.trans hx)
            subst this
            rcases hw' with hw'|⟨hw',_⟩
            · exact hw'
            · rw [hw'] at h';simp at h'
          rcases Nat.lt_or_ge j u with hju|huj
          · by_cases hx:∃i,j<i∧i<u∧fB E all S t i
            · obtain⟨i,g1,g2,g3,g5⟩:=xE u hx
              obtain⟨x,hx',_⟩:=_root_.id g3
              rcases hpair g1 ho hx' with hb|hb
              · exact absurd hb (haft (hua i g2 g3))
              · have h01':aU E x.op=some 0∨aU E x.op=some 1∨aU E x.op=some 6:=by
                  rcases hb.q with⟨h',_⟩|⟨_,h'⟩|⟨h',_⟩|h'
                  · exact absurd hc4 h'
                  · rcases h' with h'|h'
                    · exact .inl h'
                    · exact .inr (.inl h')
                  · rw [hc4] at h';simp at h'
                  · exact .inr (.inr h')
                have hch:=hchain t (i+1) (u-(i+1)) (by omega) fun m a1 a2=>g5 m (by omega) (by omega)
                rw [show i+1+(u-(i+1))=u by omega] at hch
                have h3:=hF01 ho hc4 hx' h01' (by omega) (hun g1 hb).1
                refine holder hx' (by omega) (hun g1 hb).2 ?_ fun id hid=> ?_
                · rw [hcur,hch]
                  exact h3.2.2.1 t (hw01 hx' g3 h01')
                · rw [hcur,hch]
                  exact(h3.2.2.2 id hid).2.2.1 t (hw01 hx' g3 h01')
            · refine heq ?_
              have hch:=hchain t (j+1) (u-(j+1)) (by omega) fun m a1 a2 hm=>hx ⟨m,by omega,by omega,hm⟩
              rw [show j+1+(u-(j+1))=u by omega] at hch
              rw [hcur,hch,hAσ t j hjn hw]
          · by_cases hx:∃i,fB E all S t i∧u≤i∧i<j
            · obtain⟨i,⟨g3,g1,g2⟩,g5⟩:=Qq hx
              obtain⟨x,hx',_⟩:=_root_.id g3
              rcases hpair g2 hx' ho with hb|hb
              · exact absurd hb (hbef g2 (hub i g1 g3))
              · have h01':aU E x.op=some 0∨aU E x.op=some 1∨aU E x.op=some 6:=by
                  rcases hb.q with⟨_,h',_⟩|⟨_,h'⟩|⟨h',_⟩|h'
                  · exact absurd hc4 h'
                  · rw [hc4] at h';simp at h'
                  · rcases h' with h'|h'
                    · exact .inl h'
                    · exact .inr (.inl h')
                  · rw [hc4] at h';simp at h'
                have hch:=hchain t u (i-u) (by omega) fun m a1 a2 hm=>g5 m (by omega) ⟨hm,by omega,by omega⟩
                rw [show u+(i-u)=i by omega] at hch
                have h3:=hF01 ho hc4 hx' h01' (by omega) (hun g2 hb).2
                refine holder hx' (by omega) (hun g2 hb).1 ?_ fun id hid=> ?_
                · rw [hcur,←hch]
                  exact h3.2.1 t (hw01 hx' g3 h01')
                · rw [hcur,←hch]
                  exact(h3.2.2.2 id hid).2.1 t (hw01 hx' g3 h01')
            · refine heq ?_
              have hch:=hchain t u (j-u) (by omega) fun m a1 a2 hm=>hx ⟨m,hm,by omega,by omega⟩
              rw [show u+(j-u)=j by omega] at hch
              rw [hcur,hch]
        · exact i4 fun id hid=>absurd (hT.kid id hid).1 h4
      have hat':=hrun σ' H H3 (fun σ2 H'=>σ2=mF (bJ kd σ') o.dst v∧H'=H3) hσj hel ⟨rfl,rfl⟩
      have hnext:∀σ2 H' a' w',(σ2=mF (bJ kd σ') o.dst v∧H'=H3)→fD E Ss σ2 H' a' w'→wpAnyIn (vO ro) 0 P .any ops Q fuel (listed.setIfInBounds j true) a' w':=by
        rintro σ2 H' a' w' ⟨eσ,eH⟩ hs'
        have hinL:∀a,(listed.setIfInBounds j true).getD a false=true↔(listed.getD a false=true∨a=j):=hset
        refine ih (listed.setIfInBounds j true) σ2 H' a' w' (by simp [hsz]) (by rw [hfun];exact hclo') ?_ ?_ ?_ ?_ ?_ ?_ hs'
        · have:=iU (p:=fun i=> !listed.getD i true) (q:=fun i=> !(listed.setIfInBounds j true).getD i true) (List.range n) (j:=j) (fun i hi=>by
            by_cases hij:j=i
            · subst hij;simp [hjs] at hi
            · rw [getD_set_ne true hij] at hi;exact hi) (List.mem_range.2 hjn) (by simp [h0]) (by simp [hjs])
          omega
        · intro t
          rw [hfun]
          refine(hσ t).step hjn hclo hnot (hAσ t) (fun hw=> ?_) (fun hw=> ?_) fun hw=>hwr hw
          · rw [eσ,c7 fun e=>hw ⟨o,ho,.inl e⟩]
            exact hkeep t hw
          · rw [eσ,heS]
            exact uU (by rw [kX,kX,hlenj]) (oU ((hσ t).read (hwr hw) (by omega) hclo hclo' hnot))
        · rw [hfun]
          refine hH.step hjn hclo hnot hAno (fun hw=> ?_) (fun hw=> ?_) hturn
          · funext id
            have unsame:¬isA j→((∃a,isA a∧rid a=id∧¬(listed.getD a false=true∨a=j))↔∃a,isA a∧rid a=id∧¬listed.getD a false=true):=fun hnj=>
              ⟨fun⟨a,ha,hr,hL⟩=>⟨a,ha,hr,fun h=>hL (.inl h)⟩,fun⟨a,ha,hr,hL⟩=>⟨a,ha,hr,fun h=>h.elim hL fun e=>hnj (e▸ha)⟩⟩
            have quiet:(¬isA j)→H'=H→cf (fun i=>listed.getD i false=true∨i=j) H' id=cf (fun i=>listed.getD i false=true) H id:=fun hnj e=>by
              rw [e]
              by_cases hx:∃a,isA a∧rid a=id∧¬listed.getD a false=true
              · rw [(hcf _ H id).1 hx,(hcf _ H id).1 ((unsame hnj).2 hx)]
              · rw [(hcf _ H id).2 hx,(hcf _ H id).2 (fun h=>hx ((unsame hnj).1 h))]
            rcases(hqt rfl).2 hw with h|h|h
            · exact quiet (fun hj=>by obtain⟨o2,ho2,h6⟩:=hA0 hj;have:o2=o:=Option.some.inj (ho2.symm.trans ho);subst this;rw [hc] at h6;simp at h6;omega) (by rw [eH];exact hH3a (.inl h))
            · exact quiet (fun hj=>by obtain⟨o2,ho2,h6⟩:=hA0 hj;have:o2=o:=Option.some.inj (ho2.symm.trans ho);subst this;rw [hc] at h6;simp at h6;omega) (by rw [eH];exact hH3a (.inr h))
            · have hja:isA j:=hA1 ho (by rw [hc,h])
              obtain⟨d1,d2⟩:=hdd j hja hnot
              have e:=hH36 h
              rw [eH,e]
              by_cases hr:rid j=id
              · rw [(hcf _ H id).1 ⟨j,hja,hr,hnot⟩,(hcf _ _ id).2 (fun⟨a,ha,hr',hL⟩=>hL (.inr (hinj ha hja (by rw [hr',hr])))),←hr,aG,if_pos ⟨rfl,d2⟩]
              · have e2:aD (aH H (rid j) (Zr (rid j))) id=aD H id:=by rw [aG,if_neg (fun e=>hr e.1.symm)]
                by_cases hx:∃a,isA a∧rid a=id∧¬listed.getD a false=true
                · obtain⟨a,ha,hr',hL⟩:=_root_.id hx
                  rw [(hcf _ H id).1 hx,(hcf _ _ id).1 ⟨a,ha,hr',fun h=>h.elim hL fun e=>hr (by rw [←e,hr'])⟩]
                · rw [(hcf _ H id).2 hx,(hcf _ _ id).2 (fun⟨a,ha,hr',hL⟩=>hx ⟨a,ha,hr',fun h=>hL (.inl h)⟩),e2]
          · funext id
            have hc0:c≠0:=fun h=>(hqt rfl).1 (.inl (by omega)) hw
            have hc6:c≠6:=fun h=>(hqt rfl).1 (.inr (.inr h)) hw
            have hnj:¬isA j:=fun h=>hAT h hw
            rw [eH,hH3b hw]
            have hg:=(hFk (j+1) (by omega) (Nat.le_refl _)).get id
            by_cases hx:∃a,isA a∧rid a=id∧j+1≤a
            · obtain⟨a,ha,hr,hja⟩:=_root_.id hx
              rw [(hA (j+1) id).1 hx]
              by_cases hL:listed.getD a false=true
              · rw [(hcf _ _ id).2 (fun⟨a',ha',hr',hL'⟩=>hL' (.inl (by rw [hinj ha' ha (by rw [hr',hr])];exact hL))),hg,(hFf id).1 ⟨a,ha,hr,by omega,hL⟩];rfl
              · rw [(hcf _ _ id).1 ⟨a,ha,hr,fun h=>h.elim hL fun e=>by omega⟩]
            · rw [(hA (j+1) id).2 hx,(hcf _ _ id).2 (fun⟨a,ha,hr,hL⟩=>by
                rcases Nat.lt_or_ge a j with g|g
                · exact hL (.inl (hdone ha g hc0 hc6))
                · exact hx ⟨a,ha,hr,by
                    have:a≠j:=fun e=>hL (.inr e)
                    omega⟩),hg,(hFf id).2 (fun⟨a,ha,hr,hja,_⟩=>hx ⟨a,ha,hr,by omega⟩)];rfl
        · rw [hfun]
          refine hHl.step hjn hclo hnot (fun k hk hw=> ?_) (fun hw=> ?_) (fun hw=> ?_) hturn
          · by_cases hak:isA k
            · rw [(hZr (rid k) k hak rfl).1,aM]
            · rw [hAH k hk hw fun o ho h6=>hak (hA1 ho h6)]
          · rw [eH]
            rcases(hqt rfl).2 hw with h|h|h
            · rw [hH3a (.inl h)]
            · rw [hH3a (.inr h)]
            · rw [hH36 h,aM]
          · rw [eH,hH3b hw,ab]
        · intro a ha hL
          have hL1:¬listed.getD a false=true:=fun h=>hL ((hinL a).2 (.inl h))
          have hne:a≠j:=fun h=>hL ((hinL a).2 (.inr h))
          obtain⟨d1,d2⟩:=hdd a ha hL1
          rw [eH]
          by_cases hw:b9 E all j
          · have hc0:c≠0:=fun h=>(hqt rfl).1 (.inl (by omega)) hw
            have hc6:c≠6:=fun h=>(hqt rfl).1 (.inr (.inr h)) hw
            have hja:j<a:=by
              rcases Nat.lt_or_ge a j with g|g
              · exact absurd (hdone ha g hc0 hc6) hL1
              · omega
            rw [hH3b hw,(hFk (j+1) (by omega) (Nat.le_refl _)).get,(hFf _).2 (fun⟨a',ha',hr',_,hL'⟩=>hL1 (by rw [hinj ha ha' hr'.symm];exact hL')),ab]
            refine⟨hD1 ha (by omega),?_⟩
            have:=hridb ha
            have:=hlen0 (j+1) (by omega)
            omega
          · rcases(hqt rfl).2 hw with h|h|h
            · rw [hH3a (.inl h)];exact⟨d1,d2⟩
            · rw [hH3a (.inr h)];exact⟨d1,d2⟩
            · have hja:isA j:=hA1 ho (by rw [hc,h])
              rw [hH36 h,aG,if_neg (fun e=>hne (hinj ha hja e.1)),aM]
              exact⟨d1,d2⟩
        · rw [eσ,oO,kX,hl]
      have:=Kw (ro:=ro) (all:=ops) (Q:=Q) hG hE hs (hall▸hat') hnext
      unfold wpOpIn
      rw [ho']
      exact this
  refine wpIn_region_any hm ?_
  have hsz:ops.size=n:=by simp [hn,hall]
  have hno:∀i,¬(Array.replicate ops.size false).getD i false=true:=fun i=>by
    rcases Nat.lt_or_ge i ops.size with h|h
    · simp [h]
    · simp [h]
  refine main ops.size _ σ H a _ (by simp [hsz]) (fun j o _ hL=>absurd hL (hno j)) ?_ (fun t k hk h1 _=> ?_) (fun k hk h1 _=> ?_) (fun k hk h1 _=> ?_) (fun a ha _=> ?_) rfl hs.drew
  · refine Nat.le_trans (List.countP_le_length) (by simp [hsz])
  · have:∀m,m≤k→aL (S m) t=aL (S 0) t:=by
      intro m
      induction m with
      |zero=>intro _;rfl
      |succ m ih=>intro hm;rw [hAσ t m (by omega) fun hw=>hno m (h1 m (by omega) hw),ih (by omega)]
    show aL σ t=aL (S k) t
    rw [this k (Nat.le_refl _),hS0]
  · have:∀m,m≤k→A m=A 0:=by
      intro m
      induction m with
      |zero=>intro _;rfl
      |succ m ih=>intro hm;rw [hAno m (by omega) fun hw=>hno m (h1 m (by omega) hw),ih (by omega)]
    rw [this k (Nat.le_refl _)]
    funext id
    by_cases hx:∃a,isA a∧rid a=id∧0≤a
    · obtain⟨a,ha,hr,_⟩:=_root_.id hx
      rw [(hA 0 id).1 hx,(hcf _ H id).1 ⟨a,ha,hr,hno a⟩]
    · rw [(hA 0 id).2 hx,(hcf _ H id).2 (fun⟨a,ha,hr,_⟩=>hx ⟨a,ha,hr,Nat.zero_le _⟩),hH0]
  · have:∀m,m≤k→(Hs m).length=(Hs 0).length:=by
      intro m
      induction m with
      |zero=>intro _;rfl
      | succ m ih=>
        intro hm
        have hnt:¬b9 E all m:=fun hw=>hno m (h1 m (by omega) hw)
        rw [←ih (by omega)]
        by_cases hak:isA m
        · rw [(hZr (rid m) m hak rfl).1,aM]
        · rw [hAH m (by omega) hnt fun o ho h6=>hak (hA1 ho h6)]
    show H.length=(Hs k).length
    rw [this k (Nat.le_refl _),hH0]
  · have hb:=hridb ha
    exact⟨hHdead _ hb.1,by omega⟩
end
end
section
section
variable {c c':Cx} {H H':List Blk} {w:World}
mutual
theorem VRel.wk (hM:∀g,c.M g→c'.M g) (hN:∀g,c.N g→c'.N g) (hk:c'.x.k=c.x.k) (hl:c'.x.l=c.x.l) (hs:∀id s,aE H id=some s→aE H' id=some s∧c'.ρ id=c.ρ id∧c'.β id=c.β id):
  ∀{x:V} {v:Value},VRel c H w x v→VRel c' H' w x v
 |_,_,.undef v=> .undef v
 |_,_,.int k n h1 h2=> .int k n h1 h2
 |_,_,.u8 x=> .u8 x
 |_,_,.b p x h=> .b p x h
 |_,_,.bt x=> .bt x
 |_,_,.nope=> .nope
 |_,_,.str s h=> .str s h
 |_,_,.nils=> .nils
 |_,_,.sl fr t xs v h=> .sl fr t xs v (aJ.ext (by cases fr;exact hM;exact hN) (fun _ _=>rfl) _ _ _ h)
 |_,_,.own t id n a cap h1 hn hc ho=> .own t id n a cap (hs id _ h1).1 hn hc (ho.imp (fun h=>h) fun⟨g,e,cur,h2,h3⟩=>⟨g,e,cur,(by rw [(hs id _ h1).2.1];exact h2),by rw [(hs id _ h1).2.2];exact h3⟩)
 |_,_,.slc t id off n m a cap h1 hm hn hc ho=> .slc t id off n m a cap (hs id _ h1).1 hm hn hc (ho.imp (fun h=>h) fun⟨g,e,cur,h2,h3⟩=>⟨g,e,cur,(by rw [(hs id _ h1).2.1];exact h2),by rw [(hs id _ h1).2.2];exact h3⟩)
 |_,_,.rp fr t x o g p es h1 hd hc=>
  have hm:∀g,c.im fr g→c'.im fr g:=by cases fr;exact hM;exact hN
  .rp fr t x o g p es (hm g h1) (aJ.ext hm (fun _ _=>rfl) _ _ _ hd) hc
 |_,_,.ptr id z i o g m h1 hr hi ho=>by rw [←(hs id _ h1).2.2];exact .ptr id z i o g m (hs id _ h1).1 (by rw [(hs id _ h1).2.1];exact hr) hi ho
 |_,_,.agg cs vs h=> .agg _ vs (VRels.wk hM hN hk hl hs h)
 |_,_,.tup cs vs h=> .tup _ vs (VRels.wk hM hN hk hl hs h)
 |_,_,.fn f cs vs h=> .fn f _ vs (VRels.wk hM hN hk hl hs h)
 |_,_,.nilfn=> .nilfn
 |_,_,.yld k h=>by
  have:=VRel.yld (c:=c') (H:=H') (w:=w) k (by rw [hk];exact h)
  rwa [hl] at this
 |_,_,.dat fr t x es h=> .dat fr t x es (aJ.ext (M:=c.im fr) (by cases fr;exact hM;exact hN) (fun _ _=>rfl) _ _ _ h)
 |_,_,.rb x v g p h1 hc h=> .rb x v g p (hM g h1) hc (VRel.wk hM hN hk hl hs h)
 |_,_,.mp t id g h1 hr=> .mp t id g (hs id _ h1).1 (by rw [(hs id _ h1).2.1];exact hr)
theorem VRels.wk (hM:∀g,c.M g→c'.M g) (hN:∀g,c.N g→c'.N g) (hk:c'.x.k=c.x.k) (hl:c'.x.l=c.x.l) (hs:∀id s,aE H id=some s→aE H' id=some s∧c'.ρ id=c.ρ id∧c'.β id=c.β id):
  ∀{xs:List V} {vs:List Value},VRels c H w xs vs→VRels c' H' w xs vs
 |_,_,.nil=> .nil
 |_,_,.cons x v xs vs h hx=> .cons _ v _ vs (VRel.wk hM hN hk hl hs h) (VRels.wk hM hN hk hl hs hx)
end
end

section
variable {G:List (Nat×V)} {b:Nat} {v v':W0} {c:Cx} {H:List Blk} {w:World}

theorem St.other (h:St G b v c H w) (hbel:Below b v'.w w) (hxk:Xk b v' c w):St G b v' c H w:={h with below:=hbel,xk:=hxk}

theorem ig.wk {c':Cx} {H':List Blk} (hM:∀g,c.M g→c'.M g) (hN:∀g,c.N g→c'.N g) (hρ:c'.ρ=c.ρ) (hk:c'.x.k=c.x.k) (hl:c'.x.l=c.x.l) (hβ:c'.β=c.β) (hs:∀id s,aE H id=some s→aE H' id=some s) (hgi:c.gi=none) {id:Nat} {k:Blk}
  (h:ig c H w id k):ig c' H' w id k:=by
 cases k with
 |dead=>trivial
 | row fr t xs=>
  rcases h with⟨h1,h2⟩|⟨g,e,cur,h1,h2,h3,h4⟩
  ·exact .inl ⟨by rw [hρ];exact h1,h2⟩
  ·refine .inr ⟨g,e,cur,by rw [hρ];exact h1,h2,by rw [hβ];exact h3,fun i x hi=> ?_⟩
   rw [hβ]
   obtain⟨es,e1,e2⟩:=h4 i x hi
   exact⟨es,aJ.ext (M:=c.im fr) (by cases fr;exact hM;exact hN) (fun _ _=>rfl) _ _ _ e1,e2⟩
 | cells cs=>
  rcases h with⟨g,e,cur,h1,h2,h3,h4⟩|⟨h1,_⟩
  ·refine .inl ⟨g,e,cur,by rw [hρ];exact h1,h2,by rw [hβ];exact h3,fun j hj=> ?_⟩
   rw [hβ]
   obtain⟨u,h5,h6,h7⟩:=h4 j hj
   exact⟨u,h5,h6,h7.wk hM hN hk hl fun id s h=>⟨hs id s h,by rw [hρ],by rw [hβ]⟩⟩
  ·rw [hgi] at h1;cases h1
 |imap fr t es=>
  obtain⟨g,ents,clock,h1,h2,h3,h4,h5,h6⟩:=h
  refine⟨g,ents,clock,by rw [hρ];exact h1,h2,h3,h4,h5,fun i n x hi=> ?_⟩
  obtain⟨v,b,h7,h8,h9⟩:=h6 i n x hi
  exact⟨v,b,h7,h8,aJ.ext (M:=c.im fr) (by cases fr;exact hM;exact hN) (fun _ _=>rfl) _ _ _ h9⟩
 | mit mid n s l=>
  cases mid with
  |none=>trivial
  |some mid=>
   obtain⟨g,gm,z,h1,h2,h3,h4,h5,h6⟩:=h
   exact⟨g,gm,z,by rw [hρ];exact h1,h2,by rw [hρ];exact h3,hs mid z h4,h5,by rw [hβ];exact h6⟩

def Cx.opn (c:Cx) (U:Nat→Prop) (gh:List Value) (n:Nat):Cx:=⟨fun g=>c.M g∨U g,c.N,c.ρ,c.β,⟨gh,c.x.k,c.x.l⟩,some n⟩
def Cx.sht (c:Cx) (gh:List Value):Cx:=⟨c.M,c.N,c.ρ,c.β,⟨gh,c.x.k,c.x.l⟩,c.gi⟩

theorem St.open (h:St G b v c H w) (hgi:c.gi=none) {U:Nat→Prop} (hU:∀g,U g→g<w.heap.size∧∀i,c.ρ i≠some g) {cs:List V} {gh:List Value} (hcs:VRels c H w cs gh)
  (hbel:Below b v'.w w) (hxk:Xk b v' (c.opn U gh H.length) w):
  St G b v' (c.opn U gh H.length) (H++ [.cells cs]) w where
 below:=hbel
 xk:=hxk
 size:=h.size
 blk id:=by
  rw [aP]
  split
  ·rename_i hid
   subst hid
   exact .inr ⟨rfl,h.rho_none,hcs.wk (c':=c.opn U gh H.length) (fun g hg=> .inl hg) (fun g hg=>hg) rfl rfl fun id s hs=>⟨bj hs,rfl,rfl⟩⟩
  ·exact(h.blk id).wk (c':=c.opn U gh H.length) (fun g hg=> .inl hg) (fun g hg=>hg) rfl rfl rfl rfl (fun id s hs=>bj hs) hgi
 inj:=h.inj
 own i g hi:=by
  obtain⟨h1,h2,h3,h4⟩:=h.own i g hi
  exact⟨h1,h2,fun hm=>hm.elim h3 fun hu=>(hU g hu).2 i hi,by simp;omega⟩
 imm g hg:=hg.elim (h.imm g) fun hu=>(hU g hu).1
 sub g hg:=⟨.inl (h.sub g hg).1,(h.sub g hg).2⟩
 glob g x hx:=(h.glob g x hx).wk (c':=c.opn U gh H.length) (fun g hg=> .inl hg) (fun g hg=>hg) rfl rfl fun id s hs=>⟨bj hs,rfl,rfl⟩

theorem St.shut (h:St G b v c H w) (hgi:c.gi=none) {gh:List Value} (hbel:Below b v'.w w) (hxk:Xk b v' (c.sht gh) w):St G b v' (c.sht gh) H w where
 below:=hbel
 xk:=hxk
 size:=h.size
 blk id:=(h.blk id).wk (c:=c) (c':=c.sht gh) (fun g hg=>hg) (fun g hg=>hg) rfl rfl rfl rfl (fun id s hs=>hs) hgi
 inj:=h.inj
 own:=h.own
 imm:=h.imm
 sub:=h.sub
 glob g x hx:=(h.glob g x hx).wk (c:=c) (c':=c.sht gh) (fun g hg=>hg) (fun g hg=>hg) rfl rfl fun id s hs=>⟨hs,rfl,rfl⟩

theorem St.ext_put (h:St G b v c H w) {g:Nat} (hX:v.X g) (ob:Obj):Ext c H w c H (w.putObj g ob) where
 M g hg:=hg
 N g hg:=hg
 mem k hk:=World.putObj_heap_other fun e=>by
  subst e
  exact h.xk.dis k (hk.elim (fun h=>h) fun hn=>(h.sub k hn).1) hX
 shp id s hs:=⟨hs,rfl⟩
 siz id s k cur e _ hr hk:=⟨cur,(World.putObj_heap_other fun e=>by subst e;exact(h.xk.xb k hX).2 id hr).trans hk,rfl⟩
 x:=rfl
 gi:=rfl
 bas _ _ _:=rfl

theorem St.put (h:St G b v c H w) {g:Nat} (hX:v.X g) (hb:b≤g) (ob:Obj) (hbel:v'.w=v.w) (hxk:Xk b v' c (w.putObj g ob)):St G b v' c H (w.putObj g ob) where
 below:=by
  rw [hbel]
  refine h.below.trans ⟨rfl,rfl,rfl,by simp,fun k hk=>World.putObj_heap_other (by omega)⟩
 xk:=hxk
 size:=by simpa using h.size
 blk id:=ig.keep (h.ext_put hX ob) (fun _=>rfl) (fun _=>rfl) (fun k hk=>World.putObj_heap_other fun e=>by subst e;exact(h.xk.xb k hX).2 id hk) (h.blk id)
 inj:=h.inj
 own i k hi:=by simpa using h.own i k hi
 imm k hk:=by simpa using h.imm k hk
 sub:=h.sub
 glob k x hx:=(h.glob k x hx).ext (h.ext_put hX ob)

theorem Xk.put (h:Xk b v c w) {g:Nat} {o:Obj} (hX:v.X g) (ho:v.D g=some o) (hnc:o.isCells=false) (ob:Obj) {D:Nat→Option Obj} {mks:Nat→Prop} (hD:∀k x,D k=some x→(k=g∧x=ob)∨(k≠g∧v.D k=some x)) (hm:∀k,mks k→v.mks k∧k≠g∧D k=v.D k):
  Xk b {v with D:=D,mks:=mks} c (w.putObj g ob) where
 keep k x hk:=by
  have hg:=(h.xb g hX).1
  rcases hD k x hk with⟨rfl,rfl⟩|⟨hne,hk⟩
  ·exact⟨World.putObj_heap_same hg,(h.keep _ _ ho).2⟩
  ·exact⟨(World.putObj_heap_other hne).trans (h.keep k x hk).1,(h.keep k x hk).2⟩
 siz k n hz:=by
  obtain⟨cur,h1,h2⟩:=h.siz k n hz
  have hne:k≠g:=fun e=>by
   subst e
   rw [(h.keep _ _ ho).1] at h1
   cases h1
   cases hnc
  exact⟨cur,(World.putObj_heap_other hne).trans h1,h2⟩
 cnt:=h.cnt
 gh:=h.gh
 l:=h.l
 dis:=h.dis
 xb k hk:=by simpa using h.xb k hk
 mks k hk:=by
  obtain⟨h1,h2,h3⟩:=hm k hk
  obtain⟨h4,h5,h6⟩:=h.mks k h1
  exact⟨h4,h5,h3.trans h6⟩
 gi:=h.gi

theorem Xk.less (h:Xk b v c w) {D:Nat→Option Obj} {Z:Nat→Option (Nat×TypeId)} {X mks:Nat→Prop} (hD:∀k x,D k=some x→v.D k=some x) (hZ:∀k n,Z k=some n→v.Z k=some n) (hX:∀k,X k→v.X k) (hm:∀k,mks k→v.mks k∧X k∧D k=v.D k)
  (hJ:v.J c.x.k X v.w):Xk b {v with D:=D,Z:=Z,X:=X,mks:=mks} c w where
 keep k x hk:=h.keep k x (hD k x hk)
 siz k n hz:=h.siz k n (hZ k n hz)
 cnt:=hJ
 gh:=h.gh
 l:=h.l
 dis k hk hx:=h.dis k hk (hX k hx)
 xb k hk:=h.xb k (hX k hk)
 mks k hk:=by
  obtain⟨h1,h2,h3⟩:=hm k hk
  obtain⟨h4,h5,h6⟩:=h.mks k h1
  exact⟨h4,h2,h3.trans h6⟩
 gi:=h.gi
end
end
end Go.Proofs.YtogipicegdbhdaaDoor.Vc

/- Texts of this claim. -/
import Derived.Test.YtailffhfhekkpaaDoorS0
import Derived.Test.YtailffhfhekkpaaDoorVc10
import Derived.KernelRfl
set_option linter.unusedVariables false
set_option linter.unusedSimpArgs false
namespace Go.Proofs.YtailffhfhekkpaaDoor.S62
set_option maxHeartbeats 20000000
open Go Go.Proofs.YtailffhfhekkpaaDoor.Vc Go.Proofs
set_option maxRecDepth 100000
theorem jL (z x:UInt8):aB z [x,1]=z^^^x:=by
 show aI (aI 0 z^^^1) z^^^x=_
 rw [bJ,UInt8.zero_xor,ju]
theorem fg (z c:UInt8):aB z [c]=c:=by
 show aI 0 z^^^c=c
 rw [bJ,UInt8.zero_xor]
theorem lu (x:UInt8):aF [x,1]= [x,1]:=ft 1 [x]
theorem yJ (x:UInt8):sz [x,1]=2:=by unfold sz;rw [lu];rfl
theorem fX {a b:UInt8}:a^^^b=0↔a=b:=UInt8.xor_eq_zero_iff
theorem P6 {p:List UInt8} (h:sz p≤1) (z:UInt8):aB z p=co p 0:=by
 have e:∀i,co p i=co [co p 0] i:=fun i=>by
  cases i with
  |zero=>rfl
  |succ i=>rw [ep];exact eJ p _ (by omega)
 rw [qo z e,fg]
theorem Lp (p:List UInt8):dS [p, []]=aF p:=by rw [l4,pZ]
theorem zA (p:List UInt8) (x:UInt8) (h:aB x p=0):aF p=ae (bU p [x,1]) [x,1]:=by
 have hb:aF [x,1]≠ []:=by rw [lu];simp
 have h1:=ug p [x,1] hb
 have h2:=uh p [x,1] hb
 rw [yJ] at h2
 have h3:aB x (aF (eW p [x,1]).2)=0:=by
  have:=congrArg (aB x) h1
  rw [dk,bR,jL,UInt8.xor_self,bB,UInt8.zero_xor] at this
  rw [this,ao,h]
 have h4:aF (eW p [x,1]).2= []:=by
  refine iK _ fun i=> ?_
  cases i with
  |zero=>rw [ao,P6 (by omega)] at h3;exact h3
  |succ i=>exact eJ _ _ (by omega)
 rw [h4,Lp] at h1
 rw [←h1]
 exact dy _ _
theorem mz (p:List UInt8) (x:UInt8) (h:aB x p=0) (hp:aF p≠ []):aF (bU p [x,1])≠ []∧sz (bU p [x,1])+1=sz p:=by
 have h1:=zA p x h
 have hq:aF (bU p [x,1])≠ []:=fun e=>by
  rw [gq _ _ e] at h1
  exact hp h1
 have h2:=kO (bU p [x,1]) [x,1] hq (by rw [lu];simp)
 rw [yJ] at h2
 have h3:sz p=sz (ae (bU p [x,1]) [x,1]):=by rw [←h1,kN]
 exact⟨hq,by omega⟩
theorem qB:∀(xs:List UInt8) (p:List UInt8),xs.Nodup→(∀x∈xs,aB x p=0)→aF p≠ []→xs.length<sz p
 |[],p,_,_,hp=>List.length_pos_iff.2 hp
 | x::xs,p,hn,h,hp=>by
  have h1:=zA p x (h x (by simp))
  obtain⟨h2,h3⟩:=mz p x (h x (by simp)) hp
  rw [List.nodup_cons] at hn
  have:=qB xs (bU p [x,1]) hn.2 (fun z hz=>by
   have h4:aB z (aF p)=0:=by rw [ao];exact h z (by simp [hz])
   rw [h1,bR,jL] at h4
   rcases fe h4 with e|e
   ·exact e
   ·exact absurd (fX.1 e▸hz) hn.1) h2
  simp only [List.length_cons]
  omega
theorem Cv (xs p:List UInt8) (hn:xs.Nodup) (h:∀x∈xs,aB x p=0) (hs:sz p≤xs.length):aF p= []:=
 Classical.byContradiction fun hp=>by
  have:=qB xs p hn h hp
  omega
theorem dE (xs p q:List UInt8) (hn:xs.Nodup) (h:∀x∈xs,aB x p=aB x q) (hp:sz p≤xs.length) (hq:sz q≤xs.length):aF p=aF q:=by
 have hz:aF (bz p q)= []:=Cv xs _ hn (fun x hx=>by rw [dH,h x hx,UInt8.xor_self]) (pp fun i hi=>by rw [jR,eJ p i (by omega),eJ q i (by omega)];rfl)
 refine dX _ _ fun i=> ?_
 have:co (bz p q) i=0:=by rw [←cg,hz];rfl
 rw [jR] at this
 exact fX.1 this

theorem sM (z:UInt8):∀(xs p:List UInt8),(z∈xs→aB z (xs.foldl (fun p x=>ae p [x,1]) p)=0)∧(aB z p=0→aB z (xs.foldl (fun p x=>ae p [x,1]) p)=0)
 |[],p=>⟨fun h=>by simp at h,fun h=>h⟩
 |x::xs,p=>by
  obtain⟨h1,h2⟩:=sM z xs (ae p [x,1])
  refine⟨fun h=> ?_,fun h=>h2 (by rw [bR,h,bJ])⟩
  rcases List.mem_cons.1 h with e|e
  ·exact h2 (by rw [bR,jL,e,UInt8.xor_self,bB])
  ·exact h1 e
theorem gn (xs:List UInt8) (z:UInt8) (h:z∈xs):aB z (aw xs)=0:=(sM z xs [1]).1 h
theorem vq:∀(xs p:List UInt8),aF p≠ []→aF (xs.foldl (fun p x=>ae p [x,1]) p)≠ []∧sz (xs.foldl (fun p x=>ae p [x,1]) p)=sz p+xs.length
 |[],p,h=>⟨h,rfl⟩
 | x::xs,p,h=>by
  have hl:aF [x,1]≠ []:=by rw [lu];simp
  have h1:=kO p [x,1] h hl
  rw [yJ] at h1
  have h2:aF (ae p [x,1])≠ []:=fun e=>by
   rw [dy] at e
   rcases wE e with e|e
   ·exact h e
   ·exact hl e
  obtain⟨h3,h4⟩:=vq xs (ae p [x,1]) h2
  exact⟨h3,by show sz (xs.foldl _ (ae p [x,1]))=_;rw [h4];simp only [List.length_cons];omega⟩
theorem iL:aF [1]= [1]:=ft 1 []
theorem dw (xs:List UInt8):aF (aw xs)≠ []∧sz (aw xs)=xs.length+1:=by
 obtain⟨h1,h2⟩:=vq xs [1] (by rw [iL];simp)
 refine⟨h1,?_⟩
 have:sz [1]=1:=by unfold sz;rw [iL];rfl
 unfold aw
 omega

theorem Gz (xs:List UInt8) (hn:xs.Nodup) (x y z:UInt8) (hx:x∈xs) (hz:z∈xs):aB z (fx (aw xs) x y)=if z=x then y else 0:=by
 have hr:=gn xs
 have h1:=zA (aw xs) x (hr x hx)
 have hs:=mz (aw xs) x (hr x hx) (dw xs).1
 have hq:∀z∈xs,z≠x→aB z (bU (aw xs) [x,1])=0:=fun z hz hne=>by
  have h4:aB z (aF (aw xs))=0:=by rw [ao];exact hr z hz
  rw [h1,bR,jL] at h4
  rcases fe h4 with e|e
  ·exact e
  ·exact absurd (fX.1 e) hne
 have hx0:aB x (bU (aw xs) [x,1])≠0:=fun e=>by
  have:=qB xs (bU (aw xs) [x,1]) hn (fun z hz=>by
   by_cases hzx:z=x
   ·rw [hzx];exact e
   ·exact hq z hz hzx) hs.1
  have:=(dw xs).2
  omega
 unfold fx
 rw [bR,fg]
 by_cases hzx:z=x
 ·rw [if_pos hzx,hzx]
  have:∀a b:UInt8,a≠0→aI a (aI b (dj a))=b:=fun a b ha=>by
   rw [bC b,←cK,mG a ha,ju]
  exact this _ _ hx0
 ·rw [if_neg hzx,hq z hz hzx,bJ]
theorem L2 (xs:List UInt8) (x y:UInt8) (hx:x∈xs):sz (fx (aw xs) x y)≤xs.length:=by
 have hs:=mz (aw xs) x (gn xs x hx) (dw xs).1
 have h1:=(dw xs).2
 unfold fx
 have h2:=fu (bU (aw xs) [x,1]) [aI y (dj (aB x (bU (aw xs) [x,1])))]
 have h3:=je [aI y (dj (aB x (bU (aw xs) [x,1])))]
 simp only [List.length_cons,List.length_nil] at h3
 omega
def at1 (z:UInt8) (zs:List (UInt8×UInt8)) (s:UInt8):UInt8:=zs.foldl (fun s q=>s^^^(if z=q.1 then q.2 else 0)) s
theorem vQ (xs:List UInt8) (hn:xs.Nodup) (z:UInt8) (hz:z∈xs):∀(zs:List (UInt8×UInt8)) (p:List UInt8),(∀q∈zs,q.1∈xs)→aB z (zs.foldl (fun p q=>dS [p,fx (aw xs) q.1 q.2]) p)=at1 z zs (aB z p)
 |[],p,_=>rfl
 |q::zs,p,h=>by
  show aB z (zs.foldl _ (dS [p,fx (aw xs) q.1 q.2]))=at1 z zs (aB z p^^^(if z=q.1 then q.2 else 0))
  rw [vQ xs hn z hz zs _ (fun r hr=>h r (by simp [hr])),dk,Gz xs hn q.1 q.2 z (h q (by simp)) hz]
theorem Bz (z:UInt8):∀(xs ys:List UInt8) (s:UInt8),xs.Nodup→xs.length=ys.length→(z∉xs→at1 z (xs.zip ys) s=s)∧∀k,k<xs.length→xs.getD k 0=z→at1 z (xs.zip ys) s=s^^^ys.getD k 0
 |[],ys,s,_,_=>⟨fun _=>rfl,fun k h=>by simp at h⟩
 |x::xs, [],s,_,h=>by simp at h
 | x::xs,y::ys,s,hn,hl=>by
  rw [List.nodup_cons] at hn
  have ih:=fun s=>Bz z xs ys s hn.2 (by simpa using hl)
  refine⟨fun h=> ?_,fun k hk he=> ?_⟩
  ·have hne:z≠x:=fun e=>h (by simp [e])
   show at1 z (xs.zip ys) (s^^^if z=x then y else 0)=s
   rw [if_neg hne,(ih _).1 (fun hm=>h (by simp [hm]))]
   simp
  ·show at1 z (xs.zip ys) (s^^^if z=x then y else 0)=_
   cases k with
   |zero=>
    have e:x=z:=he
    rw [if_pos e.symm,(ih _).1 (e▸hn.1)]
    rfl
   |succ k=>
    have he:xs.getD k 0=z:=he
    have hk:k<xs.length:=by simpa using hk
    have hm:z∈xs:=by rw [←he];simp [List.getElem?_eq_getElem hk]
    have hne:z≠x:=fun e=>hn.1 (e▸hm)
    rw [if_neg hne,(ih _).2 k hk he]
    simp
theorem pn (xs ys:List UInt8) (h:b9 xs ys) (k:Nat) (hk:k<xs.length):aB (xs.getD k 0) (fM xs ys)=ys.getD k 0:=by
 have hm:xs.getD k 0∈xs:=by simp [List.getElem?_eq_getElem hk]
 have h1:=vQ xs h.1 _ hm (xs.zip ys) [] fun q hq=>(List.of_mem_zip hq).1
 have h2:=(Bz (xs.getD k 0) xs ys (aB (xs.getD k 0) []) h.1 h.2).2 k hk rfl
 unfold fM vS
 rw [h1,h2]
 show 0^^^_=_
 simp
theorem zp (xs:List UInt8):∀(zs:List (UInt8×UInt8)) (p:List UInt8),(∀q∈zs,q.1∈xs)→sz p≤xs.length→sz (zs.foldl (fun p q=>dS [p,fx (aw xs) q.1 q.2]) p)≤xs.length
 |[],p,_,h=>h
 |q::zs,p,hq,h=>zp xs zs _ (fun r hr=>hq r (by simp [hr])) (iQ _ _ _ h (L2 xs q.1 q.2 (hq q (by simp))))
theorem ot (xs ys:List UInt8):sz (fM xs ys)≤xs.length:=zp xs _ [] (fun q hq=>(List.of_mem_zip hq).1) (Nat.zero_le _)
theorem nW {α:Type} (f:List UInt8→α→List UInt8) (hf:∀p a,aF (f p a)=f p a):∀(l:List α) (p:List UInt8),aF p=p→aF (l.foldl f p)=l.foldl f p
 |[],p,h=>h
 |a::l,p,_=>nW f hf l _ (hf p a)
theorem sF (xs ys:List UInt8):aF (fM xs ys)=fM xs ys:=nW _ (fun p q=>iS _ _) _ _ rfl
theorem vO (xs ys p:List UInt8) (h:b9 xs ys) (hp:sz p≤xs.length) (hv:∀k,k<xs.length→aB (xs.getD k 0) p=ys.getD k 0):fM xs ys=aF p:=by
 rw [←sF]
 refine dE xs _ _ h.1 (fun x hx=> ?_) (ot xs ys) hp
 obtain⟨k,hk,rfl⟩:=List.mem_iff_getElem.1 hx
 have e:xs.getD k 0=xs[k]:=by simp [List.getElem?_eq_getElem hk]
 rw [←e,pn xs ys h k hk,hv k hk]
set_option linter.unusedVariables false
def kw (a b:List UInt8) (d w:Int):List UInt8×List Int×Int:=(aS a b d w).getD ([], [],0)
def O2:List V→Option (Prop×V×List Blk)
 |[.sl false .u8 a,.sl false .u8 b,.int .i64 d,.int .i64 w]=>some (a.length≤10000∧b.length≤10000∧(aS a b d w).isSome=true,.tup [.own .u8 0,.own (.int .i64) 1,.int .i64 ((kw a b d w).2.2)], [.row true .u8 ((kw a b d w).1),.row true (.int .i64) ((kw a b d w).2.1)])
 |_=>none
theorem X1 (a b:List UInt8) (d w:Int) (hp0:a.length≤10000) (hp1:b.length≤10000) (hp2:(aS a b d w).isSome=true):bI (En Yu tys G6 []) Tryd.f64 [.o .u8,.o (.int .i64),.k] [.sl false .u8 a,.sl false .u8 b,.int .i64 d,.int .i64 w] (.tup [.own .u8 0,.own (.int .i64) 1,.int .i64 ((kw a b d w).2.2)]) [.row true .u8 ((kw a b d w).1),.row true (.int .i64) ((kw a b d w).2.1)]:=by
 obtain⟨x,hx⟩:=Option.isSome_iff_exists.1 hp2
 obtain⟨p,l,e⟩:=x
 have h:=Sy a b d w p l e hp0 hp1 hx
 unfold kw
 rw [hx]
 exact h
def K0:List (Nat×bW):=(64,aW [.v (.sl .u8),.v (.sl .u8),.v (.int .i64),.v (.int .i64)] O2)::Yu
theorem Wn:Known Tryd.prog (En K0 tys G6 []):=k23.add Tryd.func64 Tryd.call64 [.o .u8,.o (.int .i64),.k] fun ds p v bs h hp=>by
 unfold O2 at h
 split at h<;>simp only [Option.some.injEq,Prod.mk.injEq,reduceCtorEq] at h
 obtain⟨rfl,rfl,rfl⟩:=h
 exact X1 _ _ _ _ hp.1 hp.2.1 hp.2.2
def K7 (xk:UInt8) (k:Nat):List UInt8→Nat→List UInt8→List UInt8
 |[],_,p=>p
 |x::rest,i,p=>K7 xk k rest (i+1) (if i≠k then ae p [aI x (dj (xk^^^x)),dj (xk^^^x)] else p)
def Ms (xs ys:List UInt8):Nat→Nat→List UInt8→List UInt8
 |0,_,out=>out
 |f+1,k,out=>Ms xs ys f (k+1) (dS [out,K7 (xs.getD k 0) k xs 0 [ys.getD k 0]])
def gB (xs ys:List UInt8):List UInt8:=Ms xs ys xs.length 0 []
def wK (xs:List UInt8) (set:Nat):Nat→List UInt8
 |0=> []
 |k+1=>if set/2^k%2=1 then wK xs set k++ [xs.getD k 0] else wK xs set k
def qF (a b:List UInt8) (d w:Int) (set:Nat):Prop:=((wK a set a.length).length:Int)=d+1∧((cB (gB (wK a set a.length) (wK b set a.length)) a b a.length).length:Int)≤w
instance (a b:List UInt8) (d w:Int) (set:Nat):Decidable (qF a b d w set):=inferInstanceAs (Decidable (_∧_))
theorem wZ (z x c:UInt8):aB z [aI x c,c]=aI (z^^^x) c:=by
 show aI (aI 0 z^^^c) z^^^aI x c=_
 rw [bJ,UInt8.zero_xor,bC c z,bf]
theorem wX (z xk:UInt8) (k:Nat) (hz:z=xk):∀(xs:List UInt8) (i:Nat) (p:List UInt8),(∀m,m<xs.length→i+m≠k→xs.getD m 0≠xk)→aB z (K7 xk k xs i p)=aB z p
 |[],i,p,_=>rfl
 | x::xs,i,p,h=>by
  rw [K7,wX z xk k hz xs (i+1) _ fun m hm hne=>h (m+1) (by simpa using hm) (by omega)]
  by_cases hi:i≠k
  ·rw [if_pos hi,bR,wZ,hz]
   have hx:x≠xk:=h 0 (by simp) (by omega)
   rw [mG _ (fun e=>hx (fX.1 e).symm),mF]
  ·rw [if_neg hi]
theorem wY (z xk:UInt8) (k:Nat):∀(xs:List UInt8) (i:Nat) (p:List UInt8),(aB z p=0→aB z (K7 xk k xs i p)=0)∧∀m,m<xs.length→i+m≠k→xs.getD m 0=z→aB z (K7 xk k xs i p)=0
 |[],i,p=>⟨fun h=>h,fun m hm=>by simp at hm⟩
 | x::xs,i,p=>by
  rw [K7]
  obtain⟨h1,h2⟩:=wY z xk k xs (i+1) (if i≠k then ae p [aI x (dj (xk^^^x)),dj (xk^^^x)] else p)
  refine⟨fun h=>h1 ?_,fun m hm hne he=> ?_⟩
  ·split
   ·rw [bR,h,bJ]
   ·exact h
  ·cases m with
   |zero=>
    have he:x=z:=he
    refine h1 ?_
    rw [if_pos (by omega),bR,wZ,he,UInt8.xor_self,bJ,bB]
   |succ m=>exact h2 m (by simpa using hm) (by omega) he
theorem Hw (xk:UInt8) (k:Nat):∀(xs:List UInt8) (i:Nat) (p:List UInt8),sz (K7 xk k xs i p)≤sz p+xs.length∧(i≤k→k<i+xs.length→sz (K7 xk k xs i p)+1≤sz p+xs.length)
 |[],i,p=>⟨Nat.le_refl _,fun h1 h2=>by simp at h2;omega⟩
 | x::xs,i,p=>by
  rw [K7]
  obtain⟨h1,h2⟩:=Hw xk k xs (i+1) (if i≠k then ae p [aI x (dj (xk^^^x)),dj (xk^^^x)] else p)
  have h3:=fu p [aI x (dj (xk^^^x)),dj (xk^^^x)]
  have h4:=je [aI x (dj (xk^^^x)),dj (xk^^^x)]
  simp only [List.length_cons,List.length_nil] at h4 ⊢
  by_cases hi:i=k
  ·rw [if_neg (by omega)] at h1 h2 ⊢
   exact⟨by omega,fun _ _=>by omega⟩
  ·rw [if_pos hi] at h1 h2 ⊢
   exact⟨by omega,fun h5 h6=>by have:=h2 (by omega) (by omega);omega⟩
theorem Df (xs:List UInt8) (hn:xs.Nodup) (i j:Nat) (hi:i<xs.length) (hj:j<xs.length) (h:xs.getD i 0=xs.getD j 0):i=j:=by
 simp only [List.getD_eq_getElem?_getD,List.getElem?_eq_getElem hi,List.getElem?_eq_getElem hj,Option.getD_some] at h
 have hp:=List.pairwise_iff_getElem.1 hn
 rcases Nat.lt_trichotomy i j with g|g|g
 ·exact absurd h (hp i j hi hj g)
 ·exact g
 ·exact absurd h.symm (hp j i hj hi g)
theorem A1 (xs ys:List UInt8) (hn:xs.Nodup) (j:Nat) (hj:j<xs.length):∀(f k:Nat) (out:List UInt8),k+f=xs.length→aB (xs.getD j 0) (Ms xs ys f k out)=aB (xs.getD j 0) out^^^(if k≤j then ys.getD j 0 else 0)
 |0,k,out,h=>by rw [Ms,if_neg (by omega)];simp
 | f+1,k,out,h=>by
  rw [Ms,A1 xs ys hn j hj f (k+1) _ (by omega),dk]
  have hne:∀m,m<xs.length→m≠k→xs.getD m 0≠xs.getD k 0:=fun m hm hmk e=>by
   have hk:k<xs.length:=by omega
   exact hmk (Df xs hn m k hm hk e)
  by_cases hjk:j=k
  ·have h1:=wX (xs.getD j 0) (xs.getD k 0) k (by rw [hjk]) xs 0 [ys.getD k 0] fun m hm hmk=>hne m hm (by omega)
   rw [h1,fg,if_neg (by omega),if_pos (by omega),hjk]
   simp
  ·have h1:=(wY (xs.getD j 0) (xs.getD k 0) k xs 0 [ys.getD k 0]).2 j hj (by omega) rfl
   rw [h1]
   by_cases hlt:k≤j
   ·rw [if_pos (by omega),if_pos hlt];simp
   ·rw [if_neg (by omega),if_neg hlt];simp
theorem Hv (xs ys:List UInt8):∀(f k:Nat) (out:List UInt8),k+f=xs.length→sz out≤xs.length→sz (Ms xs ys f k out)≤xs.length
 |0,k,out,_,h=>h
 |f+1,k,out,hk,h=>by
  rw [Ms]
  refine Hv xs ys f (k+1) _ (by omega) (iQ _ _ _ h ?_)
  have h1:=(Hw (xs.getD k 0) k xs 0 [ys.getD k 0]).2 (Nat.zero_le _) (by omega)
  have h2:=je [ys.getD k 0]
  simp only [List.length_cons,List.length_nil] at h2
  omega
theorem wW (xs ys:List UInt8):∀(f k:Nat) (out:List UInt8),aF out=out→aF (Ms xs ys f k out)=Ms xs ys f k out
 |0,k,out,h=>h
 |f+1,k,out,_=>wW xs ys f (k+1) _ (iS _ _)
theorem fo (xs ys:List UInt8) (hn:xs.Nodup) (j:Nat) (hj:j<xs.length):aB (xs.getD j 0) (gB xs ys)=ys.getD j 0:=by
 unfold gB
 rw [A1 xs ys hn j hj _ _ _ (by omega),if_pos (by omega)]
 show 0^^^_=_
 simp
theorem mJ (xs ys:List UInt8):sz (gB xs ys)≤xs.length:=Hv xs ys _ _ _ (by omega) (Nat.zero_le _)
theorem gA (xs ys:List UInt8):aF (gB xs ys)=gB xs ys:=wW xs ys _ _ _ rfl
theorem pj (xs ys:List UInt8) (h:b9 xs ys):fM xs ys=gB xs ys:=by
 rw [←gA]
 exact vO xs ys _ h (mJ xs ys) fun k hk=>fo xs ys h.1 k hk
theorem ii (l:List UInt8) (n k:Nat) (h:k<n):(l.take n).getD k 0=l.getD k 0:=by
 simp [List.getD_eq_getElem?_getD,List.getElem?_take,h]
theorem qC (a b:List UInt8) (n:Nat) (h:b9 a b):b9 (a.take n) (b.take n):=
 ⟨h.1.sublist (List.take_sublist _ _),by rw [List.length_take,List.length_take,h.2]⟩
theorem iR {p:List UInt8} (h:aF p=p):sz p=p.length:=by unfold sz;rw [h]
theorem ly (a b:List UInt8) (h:sz a<sz b):sz (dS [a,b])=sz b:=by
 have hb:aF b≠ []:=fun e=>by have:=lw.2 e;omega
 have h1:sz (dS [a,b])=sz b-1+1:=Ou (fun i hi=>by rw [nZ,eJ a i (by omega),eJ b i (by omega)];rfl) (by
  rw [nZ,eJ a _ (by omega),UInt8.zero_xor]
  exact dt b hb)
 omega
theorem Nc (a b:List UInt8) (hb:aF b≠ []) (h:sz b≤sz a):sz (bU a b)+sz b=sz a+1:=by
 have h1:=ug a b hb
 have h2:=uh a b hb
 have h0:0<sz b:=List.length_pos_iff.2 hb
 have ha:sz (dS [ae (bU a b) b,aF (eW a b).2])=sz a:=by
  show sz (dS [ae (aF (eW a b).1) b,aF (eW a b).2])=sz a
  rw [h1,kN]
 have hq:aF (bU a b)≠ []:=fun e=>by
  have h3:ae (bU a b) b= []:=gq _ _ e
  have h4:=iQ (ae (bU a b) b) (aF (eW a b).2) (sz b-1) (by rw [h3];exact Nat.zero_le _) (by rw [kN];omega)
  omega
 have h5:=kO (bU a b) b hq hb
 have hq0:0<sz (bU a b):=List.length_pos_iff.2 hq
 have h6:sz (dS [ae (bU a b) b,aF (eW a b).2])=sz (ae (bU a b) b):=by
  have e:dS [ae (bU a b) b,aF (eW a b).2]=dS [aF (eW a b).2,ae (bU a b) b]:=by
   refine(iS _ _).symm.trans ((dX _ _ fun i=> ?_).trans (iS _ _))
   rw [nZ,nZ,UInt8.xor_comm]
  rw [e]
  exact ly _ _ (by rw [kN];omega)
 omega
structure EuInv (xs ys:List UInt8) (m:Int) (a b u v:List UInt8):Prop where
 ta:aF a=a
 tb:aF b=b
 tu:aF u=u
 tv:aF v=v
 ea:∀k,k<xs.length→aB (xs.getD k 0) a=aI (aB (xs.getD k 0) u) (ys.getD k 0)
 eb:∀k,k<xs.length→aB (xs.getD k 0) b=aI (aB (xs.getD k 0) v) (ys.getD k 0)
 lt:sz b<sz a
 uv:sz u<sz v
 sum:sz v+sz a=xs.length+2
 big:m≤2*eF a
theorem Ph (xs ys:List UInt8) (hxs:xs.length≤10000) (m:Int) (hm:0≤m):∀(f:Nat) (a b u v:List UInt8),sz b<f→EuInv xs ys m a b u v→
  ∃b' v',eu f m a b u v=some (b',v')∧aF v'≠ []∧2*eF b'<m∧m+2*eF v'≤2*xs.length∧∀k,k<xs.length→aB (xs.getD k 0) b'=aI (aB (xs.getD k 0) v') (ys.getD k 0)
 |0,a,b,u,v,h,_=>by omega
 | f+1,a,b,u,v,h,I=>by
  have h1:=I.sum
  have h2:=I.lt
  have h3:=I.uv
  have hsm:jg a∧jg b∧jg u∧jg v:=by
   have e1:=iR I.ta
   have e2:=iR I.tb
   have e3:=iR I.tu
   have e4:=iR I.tv
   unfold jg
   omega
  unfold eu
  rw [if_pos hsm]
  by_cases hb:2*eF b<m
  ·rw [if_pos hb]
   refine⟨b,v,rfl,fun e=> ?_,hb,?_,I.eb⟩
   ·have:=lw.2 e;omega
   ·have:=I.big
    rw [eo] at this ⊢
    omega
  ·rw [if_neg hb]
   have hb0:aF b≠ []:=fun e=>by
    have:=lw.2 e
    rw [eo] at hb
    omega
   rw [if_neg hb0]
   have hr:=uh a b hb0
   have hq:=Nc a b hb0 (by omega)
   have hv0:aF v≠ []:=fun e=>by have:=lw.2 e;omega
   have hq0:aF (bU a b)≠ []:=fun e=>by have:=lw.2 e;omega
   have hqv:=kO (bU a b) v hq0 hv0
   have hsv:sz (dS [u,ae (bU a b) v])=sz (ae (bU a b) v):=ly _ _ (by omega)
   have hrem:sz (ru a b)=sz (eW a b).2:=kN _
   refine Ph xs ys hxs m hm f b (ru a b) v (dS [u,ae (bU a b) v]) (by rw [hrem];omega) ⟨I.tb,iM _,I.tv,iS _ _,I.eb,fun k hk=> ?_,by rw [hrem];exact hr,by omega,by omega,by omega⟩
   have hd:=congrArg (aB (xs.getD k 0)) (ug a b hb0)
   rw [dk,bR,ao (xs.getD k 0) a] at hd
   have e1:aB (xs.getD k 0) (ru a b)=aB (xs.getD k 0) a^^^aI (aB (xs.getD k 0) (bU a b)) (aB (xs.getD k 0) b):=by
    rw [←hd]
    show _=(aI (aB (xs.getD k 0) (bU a b)) (aB (xs.getD k 0) b)^^^aB (xs.getD k 0) (ru a b))^^^_
    have:∀x y:UInt8,y=x^^^y^^^x:=fun x y=>by
     have:x^^^y^^^x=y^^^(x^^^x):=by ac_rfl
     rw [this];simp
    exact this _ _
   rw [e1,I.ea k hk,I.eb k hk,dk,bR,bf,←cK]
theorem Iy (xs ys:List UInt8) (h:b9 xs ys) (d:Int) (hd:d<xs.length):EuInv xs ys (xs.length+d+1) (aw xs) (fM xs ys) [] [1] where
 ta:=nW _ (fun p x=>dy _ _) _ _ iL
 tb:=sF xs ys
 tu:=rfl
 tv:=iL
 ea k hk:=by
  rw [gn xs _ (by simp [List.getElem?_eq_getElem hk])]
  exact(bJ _).symm
 eb k hk:=by
  rw [pn xs ys h k hk,fg,ju]
 lt:=by
  have h1:=(dw xs).2
  have h2:=ot xs ys
  omega
 uv:=by
  have:sz [1]=1:=by unfold sz;rw [iL];rfl
  rw [this];exact Nat.zero_lt_one
 sum:=by
  have h1:=(dw xs).2
  have:sz [1]=1:=by unfold sz;rw [iL];rfl
  omega
 big:=by
  have h1:=(dw xs).2
  rw [eo]
  omega
def qV (p xs ys:List UInt8):Nat→List UInt8
 |0=> []
 |k+1=>if aB (xs.getD k 0) p≠ys.getD k 0 then qV p xs ys k++ [xs.getD k 0] else qV p xs ys k
theorem se (p xs ys:List UInt8):∀n,(qV p xs ys n).length=(cB p xs ys n).length
 |0=>rfl
 |n+1=>by
  have:=se p xs ys n
  unfold qV cB
  split
  ·rw [List.length_append,List.length_append,this];rfl
  ·exact this
theorem sc (p xs ys:List UInt8):∀n k,k<n→aB (xs.getD k 0) p≠ys.getD k 0→xs.getD k 0∈qV p xs ys n
 |0,k,h,_=>by omega
 | n+1,k,h,hne=>by
  unfold qV
  by_cases e:k=n
  ·rw [e] at hne ⊢
   rw [if_pos hne]
   simp
  ·have:=sc p xs ys n k (by omega) hne
   split
   ·exact List.mem_append_left _ this
   ·exact this
theorem sg (p q xs ys:List UInt8) (h:∀x,aB x p=aB x q):∀n,cB p xs ys n=cB q xs ys n
 |0=>rfl
 |n+1=>by
  unfold cB
  rw [sg p q xs ys h n,h]
theorem yt (p xs ys:List UInt8) (n:Nat):cB (aF p) xs ys n=cB p xs ys n:=sg _ _ _ _ (fun x=>ao x p) n
def ir (xs:List UInt8) (d w:Int):Prop:=¬(d<0∨w<0∨(xs.length:Int)≤d∨((xs.length:Int)-d-1)/2<w)
theorem Bm (xs ys:List UInt8) (hr:b9 xs ys) (hxs:xs.length≤10000) (d w:Int) (hc:ir xs d w):
  ∃b v,aS xs ys d w=kF xs ys d w b v∧aF v≠ []∧2*eF b<xs.length+d+1∧d+1+2*eF v≤xs.length∧∀k,k<xs.length→aB (xs.getD k 0) b=aI (aB (xs.getD k 0) v) (ys.getD k 0):=by
 unfold ir at hc
 have h1:=ot xs ys
 obtain⟨b,v,he,hv,hb,hs,hk⟩:=Ph xs ys hxs (xs.length+d+1) (by omega) 20000 _ _ _ _ (by omega) (Iy xs ys hr d (by omega))
 refine⟨b,v,?_,hv,hb,by omega,hk⟩
 unfold aS
 rw [if_pos hr,if_neg hc,he]
theorem uk (xs ys:List UInt8) (d w:Int) (b v:List UInt8) (hv:aF v≠ []):
  (kF xs ys d w b v=some ([], [],17))∨(kF xs ys d w b v=some (bU b v,cB (bU b v) xs ys xs.length,0)∧eF (bU b v)≤d∧((cB (bU b v) xs ys xs.length).length:Int)≤w):=by
 unfold kF
 rw [if_neg hv]
 split
 ·exact .inl rfl
 ·split
  ·exact .inl rfl
  ·split
   ·exact .inl rfl
   ·exact .inr ⟨rfl,by omega,by omega⟩
theorem uj (xs ys:List UInt8) (hr:b9 xs ys) (hxs:xs.length≤10000) (d w:Int) (hc:ir xs d w) (q:List UInt8) (hq:eF q≤d) (hm:((cB q xs ys xs.length).length:Int)≤w):
  aS xs ys d w=some (aF q,cB q xs ys xs.length,0):=by
 obtain⟨b,v,he,hv,hb,hs,hk⟩:=Bm xs ys hr hxs d w hc
 unfold ir at hc
 obtain⟨e,hee⟩:∃e,e=aw (qV q xs ys xs.length):=⟨_,rfl⟩
 have hes:aF e≠ []∧sz e=(cB q xs ys xs.length).length+1:=by rw [hee,←se];exact dw _
 have hv1:0<sz v:=List.length_pos_iff.2 hv
 rw [eo] at hq hb hs
 have hbe:=fu b e
 have hve:=fu v e
 have hveq:=fu (ae v e) q
 have hAB:aF (ae b e)=aF (ae (ae v e) q):=by
  refine dE xs _ _ hr.1 (fun x hx=> ?_) (by omega) (by omega)
  obtain⟨k,hk',rfl⟩:=List.mem_iff_getElem.1 hx
  have e1:xs.getD k 0=xs[k]:=by simp [List.getElem?_eq_getElem hk']
  rw [←e1,bR,bR,bR,hk k hk']
  by_cases hmiss:aB (xs.getD k 0) q=ys.getD k 0
  ·rw [hmiss];ac_rfl
  ·have:aB (xs.getD k 0) e=0:=by rw [hee];exact gn _ _ (sc q xs ys _ k hk' hmiss)
   rw [this,bB,bB,bJ]
 have hb1:aF b=aF (ae v q):=by
  refine(rM e b (ae v q) [] [] hes.1 (fun n=> ?_) (fun _ _=>rfl) (fun _ _=>rfl)).1
  congr 1
  rw [←dC,←dC]
  refine lD ?_ n
  rw [hAB,qH,qH,sP e q]
 have hd:=zH b v hv
 have h0:0<sz v:=hv1
 obtain⟨h5,h6⟩:=rM v (eW b v).1 q (eW b v).2 [] hv (fun n=>by
  rw [hd.1 n,rR,lD hb1 n,dC,um];simp) hd.2 (fun _ _=>rfl)
 have hQ:bU b v=aF q:=h5
 have hM:ru b v= []:=h6
 rw [he]
 unfold kF
 rw [if_neg hv,hM,if_neg (by simp),hQ,if_neg (by rw [eo,kN];omega),yt,if_neg (by omega)]
theorem nY (xs ys:List UInt8) (hr:b9 xs ys) (hxs:xs.length≤10000) (d w:Int) (hc:ir xs d w):
  aS xs ys d w=some ([], [],17)∨∃p,aS xs ys d w=some (p,cB p xs ys xs.length,0)∧aF p=p∧eF p≤d∧((cB p xs ys xs.length).length:Int)≤w:=by
 obtain⟨b,v,he,hv,hb,hs,hk⟩:=Bm xs ys hr hxs d w hc
 rw [he]
 rcases uk xs ys d w b v hv with h|⟨h1,h2,h3⟩
 ·exact .inl h
 ·exact .inr ⟨bU b v,h1,iM _,h2,h3⟩
theorem I4 (xs ys:List UInt8) (hxs:xs.length≤10000) (d w:Int):(aS xs ys d w).isSome=true:=by
 by_cases hr:b9 xs ys
 ·by_cases hc:ir xs d w
  ·rcases nY xs ys hr hxs d w hc with h|⟨p,h,_⟩<;>rw [h]<;>rfl
  ·unfold ir at hc
   unfold aS
   rw [if_pos hr,if_pos (nw hc)]
   rfl
 ·unfold aS
  rw [if_neg hr]
  rfl
theorem I6 {xs ys:List UInt8} {d w:Int} (hxs:xs.length≤10000):((kw xs ys d w).1.length:Int)≤max 0 (d+1):=by
 unfold kw
 by_cases hr:b9 xs ys
 ·by_cases hc:ir xs d w
  ·rcases nY xs ys hr hxs d w hc with h|⟨p,h,h1,h2,_⟩<;>rw [h]
   ·show((0:Nat):Int)≤_
    omega
   ·show(p.length:Int)≤_
    have e:p.length=sz p:=(iR h1).symm
    rw [eo] at h2
    omega
  ·unfold ir at hc
   unfold aS
   rw [if_pos hr,if_pos (nw hc)]
   show((0:Nat):Int)≤_
   omega
 ·unfold aS
  rw [if_neg hr]
  show((0:Nat):Int)≤_
  omega
open Go
def dA (f:Nat→UInt8) (n k:Nat):List UInt8:=(List.range n).map fun i=>if i<k then f i else 0
theorem kA (f:Nat→UInt8) (n k:Nat):(dA f n k).length=n:=by simp [dA]
theorem il (f:Nat→UInt8) (n:Nat):dA f n 0=List.replicate n 0:=by
 apply List.ext_getElem
 ·simp [dA]
 ·intro i h1 h2;simp [dA]
theorem io (f:Nat→UInt8) {n k:Nat} (h:k<n):(dA f n k).set k (f k)=dA f n (k+1):=by
 apply List.ext_getElem
 ·simp [dA]
 ·intro i h1 h2
  rw [List.getElem_set]
  simp only [dA,List.getElem_map,List.getElem_range]
  by_cases e:k=i
  ·subst e;simp
  ·rw [if_neg e]
   by_cases g:i<k
   ·rw [if_pos g,if_pos (by omega)]
   ·rw [if_neg g,if_neg (by omega)]
theorem kB (f:Nat→UInt8) (n:Nat):dA f n n=(List.range n).map f:=by
 apply List.map_congr_left
 intro i hi
 rw [List.mem_range] at hi
 rw [if_pos hi]
def m9 (c:UInt8) (s:List UInt8) (i:Nat):UInt8:=aI c (s.getD i 0)
def cR (c:UInt8) (s:List UInt8):List UInt8:=(List.range s.length).map (m9 c s)
def vT (a b:List UInt8) (i:Nat):UInt8:=if i<b.length then a.getD i 0^^^b.getD i 0 else a.getD i 0
def vU (a b:List UInt8):List UInt8:=(List.range a.length).map (vT a b)
def eK (a b:List UInt8):List UInt8:=if a.length<b.length then vU b a else vU a b
theorem cD (c:UInt8) (s:List UInt8):(cR c s).length=s.length:=by simp [cR]
theorem fa (a b:List UInt8):(eK a b).length=max a.length b.length:=by
 unfold eK
 split<;>simp [vU]<;>omega
def Qt:List V→Option (Prop×V×List Blk)
 |[.int .i64 k,.rp false .u8 c 0,.rp false .str s 0]=>some (0≤k∧k<(s.length:Int),.u8 (m9 c s k.toNat), [])
 |_=>none
theorem aBY (k:Int) (c:UInt8) (s:List UInt8):bH (En K0 tys G6 []) Tryd.f54 [.k] Qt [.int .i64 k,.rp false .u8 c 0,.rp false .str s 0]:=by
 rintro⟨hp0,hp1⟩
 refine⟨by kernel_rfl,ix k s.length,trivial,?_⟩
 exact a6
def T0:List (Nat×bW):=(54,aW [.v (.int .i64),.ref .u8,.ref .str] Qt)::K0
theorem aAd:Known Tryd.prog (En T0 tys G6 []):=Wn.addQ Tryd.func54 Tryd.call54 [.k] fun ds _ _ _ h=>by unfold Qt at h;split at h;exact aBY _ _ _;cases h
def Qs:List V→Option (Prop×V×List Blk)
 |[.int .i64 k,.rp false .str b 0,.rp false .str a 0]=>some (0≤k∧k<(a.length:Int),.u8 (vT a b k.toNat), [])
 |_=>none
theorem aBX (k:Int) (b a:List UInt8):bH (En T0 tys G6 []) Tryd.f56 [.k] Qs [.int .i64 k,.rp false .str b 0,.rp false .str a 0]:=by
 rintro⟨hp0,hp1⟩
 refine yn (k<(b.length:Int)) (fun h0=> ?_) fun h0=> ?_
 ·refine⟨by kernel_rfl,ix k a.length,ix k b.length,?_⟩
  rw [show vT a b k.toNat=_ from if_pos (by omega)]
  exact a6
 ·refine⟨ix k a.length,?_⟩
  rw [show vT a b k.toNat=_ from if_neg (by omega)]
  exact a6
def Og:List (Nat×bW):=(56,aW [.v (.int .i64),.ref .str,.ref .str] Qs)::T0
theorem aAc:Known Tryd.prog (En Og tys G6 []):=aAd.addQ Tryd.func56 Tryd.call56 [.k] fun ds _ _ _ h=>by unfold Qs at h;split at h;exact aBX _ _ _;cases h
theorem Xz (z:Int) (c:UInt8) (s:List UInt8) (hp0:z=(s.length:Int)) (hp1:s.length≤1000000000):bI (En Og tys G6 []) Tryd.f53 [.k] [.int .i64 z,.fn 54 [.rp false .u8 c 0,.rp false .str s 0]] (.str (cR c s)) []:=by
 refine⟨⟨rfl,om ((0:Int)≤z),om (z≤(1000000000:Int))⟩,0, [(1,.k),(5,.o .u8),(9,.k),(10,.k)],fun nM vs H=>∃(k:Nat),(k:Int)≤z∧nM=z.toNat-k∧vs= [.fn 54 [.rp false .u8 c 0,.rp false .str s 0],.own .u8 0,.int .i64 z,.int .i64 (k:Int)]∧H= [.row true .u8 (dA (m9 c s) z.toNat k)],⟨rfl,z.toNat,0,by omega,by omega,rfl,by rw [il];rfl⟩,?_⟩
 rintro nM vs H ⟨k,hc1_0,rfl,rfl,rfl⟩
 refine yn ((k:Int)<z) (fun h0=> ?_) fun h0=> ?_
 ·have hl:=kA (m9 c s) z.toNat k
  refine⟨rfl,⟨om (0≤(k:Int)),om ((k:Int)<(s.length:Int))⟩,ix k (dA (m9 c s) z.toNat k).length,fY,ap (k+1),?_⟩
  exact⟨rfl,z.toNat-(k+1),by omega,k+1,by omega,rfl,rfl,by rw [←io _ (by omega:k<z.toNat)];rfl⟩
 ·rw [show k=z.toNat by omega,kB,show z.toNat=s.length by omega]
  exact a6
theorem Xy (z:Int) (b a:List UInt8) (hp0:z=(a.length:Int)) (hp1:a.length≤1000000000):bI (En Og tys G6 []) Tryd.f53 [.k] [.int .i64 z,.fn 56 [.rp false .str b 0,.rp false .str a 0]] (.str (vU a b)) []:=by
 refine⟨⟨rfl,om ((0:Int)≤z),om (z≤(1000000000:Int))⟩,0, [(1,.k),(5,.o .u8),(9,.k),(10,.k)],fun nM vs H=>∃(k:Nat),(k:Int)≤z∧nM=z.toNat-k∧vs= [.fn 56 [.rp false .str b 0,.rp false .str a 0],.own .u8 0,.int .i64 z,.int .i64 (k:Int)]∧H= [.row true .u8 (dA (vT a b) z.toNat k)],⟨rfl,z.toNat,0,by omega,by omega,rfl,by rw [il];rfl⟩,?_⟩
 rintro nM vs H ⟨k,hc1_0,rfl,rfl,rfl⟩
 refine yn ((k:Int)<z) (fun h0=> ?_) fun h0=> ?_
 ·have hl:=kA (vT a b) z.toNat k
  refine⟨rfl,⟨om (0≤(k:Int)),om ((k:Int)<(a.length:Int))⟩,ix k (dA (vT a b) z.toNat k).length,fY,ap (k+1),?_⟩
  exact⟨rfl,z.toNat-(k+1),by omega,k+1,by omega,rfl,rfl,by rw [←io _ (by omega:k<z.toNat)];rfl⟩
 ·rw [show k=z.toNat by omega,kB,show z.toNat=a.length by omega]
  exact a6
def Vr:List V→Option (Prop×V×List Blk)
 |[.int .i64 z,.fn 54 [.rp false .u8 c 0,.rp false .str s 0]]=>some (z=(s.length:Int)∧s.length≤1000000000,.str (cR c s), [])
 |[.int .i64 z,.fn 56 [.rp false .str b 0,.rp false .str a 0]]=>some (z=(a.length:Int)∧a.length≤1000000000,.str (vU a b), [])
 |_=>none
def T8:List (Nat×bW):=(53,aW [.v (.int .i64),.fn [(54, [.ref .u8,.ref .str]),(56, [.ref .str,.ref .str])]] Vr)::Og
theorem aAe:Known Tryd.prog (En T8 tys G6 []):=aAc.add Tryd.func53 Tryd.call53 [.k] fun ds p v bs h hp=>by
 unfold Vr at h
 split at h<;>simp only [Option.some.injEq,Prod.mk.injEq,reduceCtorEq] at h
 ·obtain⟨rfl,rfl,rfl⟩:=h
  exact Xz _ _ _ hp.1 hp.2
 ·obtain⟨rfl,rfl,rfl⟩:=h
  exact Xy _ _ _ hp.1 hp.2
def F9:List V→Option (Prop×V×List Blk)
 |[.u8 c,.str s]=>some (s.length≤1000000000,.str (cR c s), [])
 |_=>none
theorem Xx (c:UInt8) (s:List UInt8):bH (En T8 tys G6 []) Tryd.f33 [.k] F9 [.u8 c,.str s]:=by
 intro hp0
 refine⟨rfl,⟨om ((s.length:Int)=(s.length:Int)),om (s.length≤1000000000)⟩,?_⟩
 exact a6
def Kz:List (Nat×bW):=(33,aW [.v .u8,.v .str] F9)::T8
theorem Wm:Known Tryd.prog (En Kz tys G6 []):=aAe.addQ Tryd.func33 Tryd.call33 [.k] fun ds _ _ _ h=>by unfold F9 at h;split at h;exact Xx _ _;cases h
def F8:List V→Option (Prop×V×List Blk)
 |[.str a,.str b]=>some (a.length≤1000000000∧b.length≤1000000000,.str (eK a b), [])
 |_=>none
theorem Xw (a b:List UInt8):bH (En Kz tys G6 []) Tryd.f35 [.k] F8 [.str a,.str b]:=by
 rintro⟨hp0,hp1⟩
 refine yn ((a.length:Int)<(b.length:Int)) (fun h0=> ?_) fun h0=> ?_
 ·refine⟨gY,gY,rfl,⟨om ((b.length:Int)=(b.length:Int)),om (b.length≤1000000000)⟩,?_⟩
  rw [show eK a b=vU b a from if_pos (by omega)]
  exact a6
 ·refine⟨rfl,⟨om ((a.length:Int)=(a.length:Int)),om (a.length≤1000000000)⟩,?_⟩
  rw [show eK a b=vU a b from if_neg (by omega)]
  exact a6
def Ky:List (Nat×bW):=(35,aW [.v .str,.v .str] F8)::Kz
theorem Wl:Known Tryd.prog (En Ky tys G6 []):=Wm.addQ Tryd.func35 Tryd.call35 [.k] fun ds _ _ _ h=>by unfold F8 at h;split at h;exact Xw _ _;cases h
theorem s5 {α:Type} (d:α) (l:List α) (k:Nat) (h:k<l.length):l.drop k=l.getD k d::l.drop (k+1):=by
 rw [List.drop_eq_getElem_cons h]
 simp [List.getD_eq_getElem?_getD,h]
theorem oC {α:Type} (d:α) (l:List α) (k:Nat) (h:k<l.length):l.take (k+1)=l.take k++ [l.getD k d]:=by
 rw [List.take_succ_eq_append_getElem h]
 simp [List.getD_eq_getElem?_getD,h]
theorem az {α:Type} (d:α) (l:List α) (k:Nat) (h:k<l.length):l.getD k d∈l:=by
 simp [List.getD_eq_getElem?_getD,h]
theorem fq {α:Type} {d:α} {l:List α} {x:α} (h:x∈l):∃k,k<l.length∧l.getD k d=x:=by
 obtain⟨k,hk,e⟩:=List.mem_iff_getElem.1 h
 exact⟨k,hk,by simp [List.getD_eq_getElem?_getD,hk,e]⟩
theorem g7 {α:Type} {d:α} {p:α→Bool} {l:List α} {k:Nat} (hk:k<l.length) (hc:(l.drop k).all p=l.all p) (h:p (l.getD k d)=false):l.all p=false:=by
 rw [←hc,s5 d l k hk,List.all_cons,h,Bool.false_and]
theorem mi {α:Type} {d:α} {p:α→Bool} {l:List α} {k:Nat} (hk:k<l.length) (hc:(l.drop k).all p=l.all p) (h:p (l.getD k d)=true):(l.drop (k+1)).all p=l.all p:=by
 rw [←hc,s5 d l k hk,List.all_cons,h,Bool.true_and]
theorem mh {α:Type} {p:α→Bool} {l:List α} {k:Nat} (hk:l.length≤k) (hc:(l.drop k).all p=l.all p):l.all p=true:=by
 rw [←hc,List.drop_eq_nil_of_le hk];rfl
theorem D6 {α:Type} {l r:List α} {x d:α} {k:Nat} (h:l.drop k=x::r):k<l.length∧l.getD k d=x∧l.drop (k+1)=r:=by
 have hk:k<l.length:=by
  rcases Nat.lt_or_ge k l.length with g|g
  ·exact g
  ·rw [List.drop_eq_nil_of_le g] at h;cases h
 rw [s5 d l k hk] at h
 injection h with h1 h2
 exact⟨hk,h1,h2⟩
theorem I2 {α:Type} {l:List α} {k:Nat} (hk:k≤l.length) (h:l.drop k= []):k=l.length:=by
 have:=List.drop_eq_nil_iff.1 h;omega

abbrev Rw:=List (List UInt8)
def Fe (l:Rw):List UInt8:=(l.drop 1).foldl eK (l.getD 0 [])
theorem sw {N:Nat}:∀(l:Rw) (s:List UInt8),s.length≤N→(∀x∈l,x.length≤N)→(l.foldl eK s).length≤N
 |[],s,h,_=>h
 |x::l,s,h,hl=>sw l (eK s x) (by rw [fa];have:=hl x (by simp);omega) fun y hy=>hl y (by simp [hy])
theorem y9 (l:Rw) (s:List UInt8) (k:Nat) (h:k<l.length):(l.take (k+1)).foldl eK s=eK ((l.take k).foldl eK s) (l.getD k []):=by
 rw [oC [] l k h,List.foldl_append];rfl
def oZ:Rw→UInt8→List UInt8
 |[],_=> []
 |[s],_=>s
 |s::t::r,x=>eK (cR x (oZ (t::r) x)) s
theorem Js (l:Rw) (x:UInt8) (k:Nat) (h:k+1<l.length):oZ (l.drop k) x=eK (cR x (oZ (l.drop (k+1)) x)) (l.getD k []):=by
 rw [s5 [] l k (by omega),s5 [] l (k+1) h]
 rfl
theorem Jr (l:Rw) (x:UInt8) (h:1≤l.length):oZ (l.drop (l.length-1)) x=l.getD (l.length-1) []:=by
 rw [s5 [] l (l.length-1) (by omega),show l.length-1+1=l.length by omega,List.drop_length];rfl
theorem Bw {N:Nat}:∀(l:Rw) (x:UInt8),(∀s∈l,s.length≤N)→(oZ l x).length≤N
 |[],x,_=>Nat.zero_le _
 |[s],x,h=>h s (by simp)
 |s::t::r,x,h=>by
  rw [oZ,fa,cD]
  have h1:=Bw (t::r) x fun y hy=>h y (by simp [hy])
  have h2:=h s (by simp)
  omega
theorem rL {α:Type} {P:α→Prop} {l:List α} (h:∀s∈l,P s) (k:Nat):∀s∈l.drop k,P s:=fun s hs=>h s (List.mem_of_mem_drop hs)
theorem zo {a b:List UInt8} {N:Nat} (h1:a.length≤N) (h2:b.length≤N):∀s∈ [a,b],s.length≤N:=fun s hs=>by
 rcases List.mem_cons.1 hs with e|hs
 ·rw [e];exact h1
 ·rw [List.mem_singleton.1 hs];exact h2
def pt (h:Int):UInt8:=UInt8.ofNat ((h+1)%256).toNat
def n0 (r:Rw):Nat:=(r.getD 0 []).length
def a7 (r:Rw):Bool:=decide (1≤r.length)&&decide (r.length<12)&&r.all fun s=>decide (s.length=n0 r)&&decide (s.length≤4096)
theorem l8 {r:Rw} (h:a7 r=true):1≤r.length∧r.length<12∧(∀s∈r,s.length=n0 r)∧n0 r≤4096:=by
 unfold a7 at h
 simp only [Bool.and_eq_true,decide_eq_true_eq,List.all_eq_true] at h
 obtain⟨⟨h1,h2⟩,h3⟩:=h
 refine⟨h1,h2,fun s hs=>(h3 s hs).1,?_⟩
 have:=h3 _ (az [] r 0 (by omega))
 exact this.2
theorem Cr {r:Rw} (h:a7 r=true):∀s∈r,s.length≤4096:=fun s hs=>by
 obtain⟨_,_,h3,h4⟩:=l8 h
 rw [h3 s hs];exact h4
theorem sN {r:Rw} (h:r.length<1∨12≤r.length):a7 r=false:=by
 unfold a7
 rcases h with h|h
 ·rw [decide_eq_false (by omega:¬1≤r.length)];rfl
 ·rw [decide_eq_false (by omega:¬r.length<12)];simp
theorem kV {r:Rw} (h1:1≤r.length) (h2:r.length<12):a7 r=r.all fun s=>decide (s.length=n0 r)&&decide (s.length≤4096):=by
 unfold a7
 rw [decide_eq_true h1,decide_eq_true h2];rfl
def zT (a b:Rw):Prop:=a.length=b.length∧n0 a=n0 b
instance (a b:Rw):Decidable (zT a b):=by unfold zT;infer_instance
def S5 (a:Rw) (h:Int) (b:Rw) (o:Int):Prop:=oZ a (pt o)=oZ b (pt h)
instance (a:Rw) (h:Int) (b:Rw) (o:Int):Decidable (S5 a h b o):=by unfold S5;infer_instance
def gG (h:Int):Prop:=0≤h∧h<12
instance (h:Int):Decidable (gG h):=by unfold gG;infer_instance
def tQ (r:Rw) (h:Int):Int:=if a7 r=true then(if gG h then 0 else 8) else 1
def dK (r:Rw) (h:Int):List UInt8:=if tQ r h=0 then oZ r (pt h) else []
def agE (a:Rw) (h:Int) (b:Rw) (o:Int):Int:=if a7 a=true∧a7 b=true∧zT a b then(if gG h∧gG o then 0 else 8) else 1
def agQ (a:Rw) (h:Int) (b:Rw) (o:Int):Prop:=agE a h b o=0∧S5 a h b o
instance (a:Rw) (h:Int) (b:Rw) (o:Int):Decidable (agQ a h b o):=by unfold agQ;infer_instance
def Qq:List V→Option (Prop×V×List Blk)
 |[.int .i64 h]=>some (True,.b (gG h), [])
 |_=>none
theorem aBU (h:Int):bH (En Ky tys G6 []) Tryd.f58 [.k] Qq [.int .i64 h]:=by
 intro _
 refine yn (0≤h) (fun h0=> ?_) fun h0=> ?_
 ·exact⟨rfl,rfl,congrArg V.b (propext (by unfold gG;constructor<;>intro g<;>first|omega|exact Bool.noConfusion g|(exfalso;omega))),rfl⟩
 ·exact⟨rfl,rfl,congrArg V.b (propext (by unfold gG;constructor<;>intro g<;>first|omega|exact Bool.noConfusion g|(exfalso;omega))),rfl⟩
def Tu:List (Nat×bW):=(58,aW [.v (.int .i64)] Qq)::Ky
theorem aAX:Known Tryd.prog (En Tu tys G6 []):=Wl.addQ Tryd.func58 Tryd.call58 [.k] fun ds _ _ _ h=>by unfold Qq at h;split at h;exact aBU _;cases h
def F5:List V→Option (Prop×V×List Blk)
 |[.sl false .str l]=>some (1≤l.length∧l.length≤1000000∧(∀x∈l,x.length≤1048576),.str (Fe l), [])
 |_=>none
theorem Xp (l:List (List UInt8)):bH (En Tu tys G6 []) Tryd.f65 [.k] F5 [.sl false .str l]:=by
 rintro⟨hp0,hp1,(hp2:(∀x∈l,x.length≤1048576))⟩
 have hld:(l.drop 1).length=l.length-1:=List.length_drop ..
 have hm0:(l.getD 0 []).length≤1048576:=hp2 _ (az [] l 0 (by omega))
 refine⟨ix 0 l.length,⟨by omega,by omega⟩,0, [(3,.k),(10,.k),(11,.k),(12,.k)],fun nM vs H=>∃(k:Nat),k≤(l.drop 1).length∧nM=(l.drop 1).length-k∧vs= [.str (((l.drop 1).take k).foldl eK (l.getD 0 [])),.sl false .str (l.drop 1),.int .i64 (((l.drop 1).length:Nat):Int),.int .i64 (k:Int)]∧H= [],⟨rfl,(l.drop 1).length,0,by omega,by omega,rfl,rfl⟩,?_⟩
 rintro nM vs H ⟨k,hc1_0,rfl,rfl,rfl⟩
 refine yn ((k:Int)<(((l.drop 1).length:Nat):Int)) (fun h0=> ?_) fun h0=> ?_
 ·have hs:((l.drop 1).drop k)=(l.drop 1).drop k:=rfl
  have hm1:=sw (N:=1048576) ((l.drop 1).take k) (l.getD 0 []) hm0 fun x hx=>rL hp2 1 x (List.mem_of_mem_take hx)
  have hm2:=rL hp2 1 _ (az [] (l.drop 1) k (by omega))
  refine⟨ix k (l.drop 1).length,⟨os ((((l.drop 1).take k).foldl eK (l.getD 0 [])).length≤1000000000),os (((l.drop 1).getD k []).length≤1000000000)⟩,ap (k+1),?_⟩
  exact⟨rfl,(l.drop 1).length-(k+1),by omega,k+1,by omega,rfl,by rw [y9 _ _ _ (by omega:k<(l.drop 1).length)];rfl,rfl⟩
 ·rw [show Fe l=((l.drop 1).take k).foldl eK (l.getD 0 []) by rw [List.take_of_length_le (by omega)];rfl]
  exact a6
def Kx:List (Nat×bW):=(65,aW [.v (.sl .str)] F5)::Tu
theorem Wi:Known Tryd.prog (En Kx tys G6 []):=aAX.addQ Tryd.func65 Tryd.call65 [.k] fun ds _ _ _ h=>by unfold F5 at h;split at h;exact Xp _;cases h
def Z7:List V→Option (Prop×V×List Blk)
 |[.sl false .str l,.u8 x]=>some (1≤l.length∧l.length≤1000000∧(∀x∈l,x.length≤1048576),.str (oZ l x), [])
 |_=>none
theorem bAt (l:List (List UInt8)) (x:UInt8):bH (En Kx tys G6 []) Tryd.f59 [.k] Z7 [.sl false .str l,.u8 x]:=by
 rintro⟨hp0,hp1,(hp2:(∀x∈l,x.length≤1048576))⟩
 refine⟨ap (l.length-1),ix (l.length-1) l.length,ap (l.length-2),0, [(0,.k),(1,.k),(5,.k),(6,.k)],fun nM vs H=>∃(k:Nat),k<l.length∧nM=k+1∧vs= [.sl false .str l,.u8 x,.str (oZ (l.drop k) x),.int .i64 ((k:Int)-1)]∧H= [],⟨rfl,l.length-1+1,l.length-1,by omega,by omega,by rw [Jr l x hp0,show((l.length-1:Nat):Int)-1=(l.length:Int)-2 by omega,show l.length-1=((l.length:Int)-1).toNat by omega];rfl,rfl⟩,?_⟩
 rintro nM vs H ⟨k,hc1_0,rfl,rfl,rfl⟩
 refine yn (0≤((k:Int)-1)) (fun h0=> ?_) fun h0=> ?_
 ·obtain⟨j,hj⟩:∃j,k=j+1:=⟨k-1,by omega⟩
  have ek:((k:Int)-1).toNat=j:=by omega
  have hl1:=Bw (N:=1048576) (l.drop k) x (rL hp2 k)
  have hl2:=hp2 _ (az [] l j (by omega))
  refine⟨by kernel_rfl,os ((oZ (l.drop k) x).length≤1000000000),ix (k-1) l.length,⟨os (1≤([cR x (oZ (l.drop k) x),l.getD (((k:Int)-1).toNat) []]:List (List UInt8)).length),os (([cR x (oZ (l.drop k) x),l.getD (((k:Int)-1).toNat) []]:List (List UInt8)).length≤1000000),by rw [ek];exact zo (by rw [cD];exact hl1) hl2⟩,ap (((k:Int)-1)-1),?_⟩
  exact⟨rfl,j+1,by omega,j,by omega,rfl,by(subst hj;have ej:((j+1:Nat):Int)-1=(j:Int):=(by omega);rw [ej,Js l x j (by omega)];rfl),rfl⟩
 ·rw [show k=0 by omega]
  exact a6
def CAt:List (Nat×bW):=(59,aW [.v (.sl .str),.v .u8] Z7)::Kx
theorem kAt:Known Tryd.prog (En CAt tys G6 []):=Wi.addQ Tryd.func59 Tryd.call59 [.k] fun ds _ _ _ h=>by unfold Z7 at h;split at h;exact bAt _ _;cases h
def Qk:List V→Option (Prop×V×List Blk)
 |[.sl false .str r]=>some (r.length≤1048576,.b (a7 r=true), [])
 |_=>none
theorem aBB (r:List (List UInt8)):bH (En CAt tys G6 []) Tryd.f63 [.k] Qk [.sl false .str r]:=by
 intro hp0
 refine ny ((r.length:Int)<1) (fun h0=> ?_) fun h0=> ?_
 ·refine yn (12≤(r.length:Int)) (fun h1=> ?_) fun h1=> ?_
  ·rw [sN (r:=r) (.inr (by omega))]
   exact a6
  ·have hall:=kV (r:=r) (by omega) (by omega)
   refine⟨0, [(0,.k),(13,.k),(14,.k),(15,.k)],fun nM vs H=>∃(k:Nat),k≤r.length∧(r.drop k).all (fun s=>decide (s.length=n0 r)&&decide (s.length≤4096))=r.all (fun s=>decide (s.length=n0 r)&&decide (s.length≤4096))∧nM=r.length-k∧vs= [.sl false .str r,.sl false .str r,.i (r.length:Int),.i k]∧H= [],⟨rfl,r.length,0,by omega,rfl,by omega,rfl,rfl⟩,?_⟩
   rintro nM vs H ⟨k,hc1_0,hc1_1,rfl,rfl,rfl⟩
   refine yn ((k:Int)<(r.length:Int)) (fun h2=> ?_) fun h2=> ?_
   ·have hk:k<r.length:=by omega
    refine⟨ix k r.length,ix 0 r.length,ny ((((r.getD k []).length:Nat):Int)≠(((r.getD 0 []).length:Nat):Int)) (fun h3=> ?_) fun h3=> ?_⟩
    ·refine yn (4096<(((r.getD k []).length:Nat):Int)) (fun h4=> ?_) fun h4=> ?_
     ·have e:a7 r=false:=by rw [hall];exact g7 (d:= []) hk hc1_1 (by show(decide ((r.getD k []).length=n0 r)&&decide ((r.getD k []).length≤4096))=false;rw [decide_eq_false (by omega:¬(r.getD k []).length≤4096),Bool.and_false])
      rw [e]
      exact a6
     ·have hok:(decide ((r.getD k []).length=n0 r)&&decide ((r.getD k []).length≤4096))=true:=by rw [decide_eq_true (by unfold n0;omega:(r.getD k []).length=n0 r),decide_eq_true (by omega:(r.getD k []).length≤4096)];rfl
      refine⟨ap (k+1),?_⟩
      exact⟨rfl,r.length-(k+1),by omega,k+1,by omega,mi (d:= []) hk hc1_1 hok,rfl,rfl,rfl⟩
    ·have e:a7 r=false:=by rw [hall];exact g7 (d:= []) hk hc1_1 (by show(decide ((r.getD k []).length=n0 r)&&decide ((r.getD k []).length≤4096))=false;rw [decide_eq_false (by unfold n0;omega:¬(r.getD k []).length=n0 r),Bool.false_and])
     rw [e]
     exact a6
   ·have e:a7 r=true:=by rw [hall];exact mh (by omega) hc1_1
    rw [e]
    exact a6
 ·rw [sN (r:=r) (.inl (by omega))]
  exact a6
def Tn:List (Nat×bW):=(63,aW [.v (.sl .str)] Qk)::CAt
theorem aAQ:Known Tryd.prog (En Tn tys G6 []):=kAt.addQ Tryd.func63 Tryd.call63 [.k] fun ds _ _ _ h=>by unfold Qk at h;split at h;exact aBB _;cases h
def oi (cf:List Rw):Nat:=n0 (cf.getD 0 [])
def jH (cf:List Rw) (l:Rw):Bool:=decide (l.length=cf.length)&&decide ((cf.getD 0 []).length=cf.length)&&l.all fun s=>decide (s.length=oi cf)
def Lo (cf:List Rw) (m:Nat):Bool:=(List.range m).all fun a=>(List.range a).all fun b=>decide ((cf.getD a []).getD b []=(cf.getD b []).getD a [])
def eG (eE:Int) (cf:List Rw):Int:=
 if eE<2∨12<eE then 3 else if(cf.length:Int)≠eE-1 then 1 else if cf.all (jH cf)=false then 1 else if 4096<oi cf then 2 else if Lo cf cf.length=false then 1 else 0
structure Deal (eE:Int) (cf:List Rw):Prop where
 n2:2≤eE
 n12:eE≤12
 len:(cf.length:Int)=eE-1
 rows:∀l∈cf,l.length=cf.length
 strs:∀l∈cf,∀s∈l,s.length=oi cf
 max:oi cf≤4096
 sym:∀a b,a<cf.length→b<cf.length→(cf.getD a []).getD b []=(cf.getD b []).getD a []
theorem nr {α:Type} {p:α→Bool} {l:List α} (h:¬l.all p=false):∀x∈l,p x=true:=fun x hx=>by
 have:l.all p=true:=by simpa using h
 exact List.all_eq_true.1 this x hx
theorem xR {eE:Int} {cf:List Rw} (h:eG eE cf=0):Deal eE cf:=by
 unfold eG at h
 split at h
 ·cases h
 ·split at h
  ·cases h
  ·split at h
   ·cases h
   ·split at h
    ·cases h
    ·split at h
     ·cases h
     ·rename_i h1 h2 h3 h4 h5
      have h3:=nr h3
      have hl:∀l∈cf,l.length=cf.length∧∀s∈l,s.length=oi cf:=fun l hl=>by
       have:=h3 l hl
       unfold jH at this
       simp only [Bool.and_eq_true,decide_eq_true_eq,List.all_eq_true] at this
       exact⟨this.1.1,this.2⟩
      have hs:∀a b,a<cf.length→b<a→(cf.getD a []).getD b []=(cf.getD b []).getD a []:=fun a b ha hb=>by
       have:=nr h5 a (List.mem_range.2 ha)
       simp only [List.all_eq_true,decide_eq_true_eq] at this
       exact this b (List.mem_range.2 hb)
      refine⟨by omega,by omega,by omega,fun l h=>(hl l h).1,fun l h=>(hl l h).2,by omega,fun a b ha hb=> ?_⟩
      rcases Nat.lt_trichotomy a b with g|g|g
      ·exact(hs b a hb g).symm
      ·subst g;rfl
      ·exact hs a b ha g
def iV (cf:List Rw) (h:Int):Rw:=cf.map fun l=>oZ l (pt h)
def qA (eE:Int) (cf:List Rw) (h:Int):Int:=if eG eE cf=0 then(if gG h then 0 else 8) else eG eE cf
def dZ (eE:Int) (cf:List Rw) (h:Int):Rw:=if qA eE cf h=0 then iV cf h else []
theorem cL {α β:Type} (d:α) (f:α→β) (l:List α) (k:Nat) (h:k<l.length):(l.take (k+1)).map f=(l.take k).map f++ [f (l.getD k d)]:=by
 rw [oC d l k h,List.map_append];rfl

theorem jp {p:Nat→Bool} {k m:Nat} (hk:k<m) (h:p k=false):(List.range m).all p=false:=by
 rw [Bool.eq_false_iff]
 intro e
 rw [List.all_eq_true.1 e k (List.mem_range.2 hk)] at h
 cases h
theorem v8 {p:Nat→Bool} {k:Nat} (h:(List.range k).all p=true) (hk:p k=true):(List.range (k+1)).all p=true:=by
 rw [List.range_succ,List.all_append,h,List.all_cons,hk];rfl
theorem Dm {cf:List Rw} {l:Rw} (h:¬l.length=cf.length):jH cf l=false:=by unfold jH;rw [decide_eq_false h,Bool.false_and,Bool.false_and]
theorem Dl {cf:List Rw} {l:Rw} (h:¬(cf.getD 0 []).length=cf.length):jH cf l=false:=by unfold jH;rw [decide_eq_false h,Bool.and_false,Bool.false_and]
theorem Dk {cf:List Rw} {l:Rw} (h:(l.all fun s=>decide (s.length=oi cf))=false):jH cf l=false:=by unfold jH;rw [h,Bool.and_false]
theorem wb {cf:List Rw} {l:Rw} (h1:l.length=cf.length) (h2:(cf.getD 0 []).length=cf.length) (h:(l.all fun s=>decide (s.length=oi cf))=true):jH cf l=true:=by unfold jH;rw [h,decide_eq_true h1,decide_eq_true h2];rfl
theorem Hz {cf:List Rw} (h:cf.all (jH cf)=true):∀l∈cf,l.length=cf.length:=fun l hl=>by
 have:=List.all_eq_true.1 h l hl
 unfold jH at this
 simp only [Bool.and_eq_true,decide_eq_true_eq] at this
 exact this.1.1

def kq (h:Int) (b:List UInt8) (rows:List Rw):List UInt8:=rows.foldl (fun s r=>eK s (cR (pt h) (r.getD 0 []))) b
def fR (b:List UInt8) (r:Rw):Bool:=a7 r&&decide (n0 r=b.length)
def gZ (h:Int) (b:List UInt8) (rows:List Rw):Int:=if gG h then(if b.length≤4096 then(if rows.all (fR b)=true then 0 else 1) else 2) else 8
theorem zl {h:Int} {b:List UInt8}:∀(rows:List Rw) (s:List UInt8),s.length=b.length→(∀r∈rows,fR b r=true)→(kq h s rows).length=b.length
 |[],s,hs,_=>hs
 |r::rows,s,hs,hr=>by
  have h1:=hr r (by simp)
  unfold fR at h1
  simp only [Bool.and_eq_true,decide_eq_true_eq] at h1
  have h2:(r.getD 0 []).length=b.length:=h1.2
  exact zl rows _ (by rw [fa,cD];omega) fun x hx=>hr x (by simp [hx])

theorem Ev {h:Int} {b:List UInt8} {rows:List Rw} {k:Nat} (hk:k<rows.length):kq h b (rows.take (k+1))=eK (kq h b (rows.take k)) (cR (pt h) ((rows.getD k []).getD 0 [])):=by
 unfold kq
 rw [oC [] rows k hk,List.foldl_append];rfl
def rj (h:Int) (b:List UInt8) (rows:List Rw):Int:=if gZ h b rows=0 then h else 0
def mw (h:Int) (b:List UInt8) (rows:List Rw):List UInt8:=if gZ h b rows=0 then kq h b rows else []
theorem yE {b:List UInt8} {r:Rw} (h:¬a7 r=true):fR b r=false:=by unfold fR;rw [Bool.eq_false_iff.2 h];rfl
theorem yD {b:List UInt8} {r:Rw} (h:¬n0 r=b.length):fR b r=false:=by unfold fR;rw [decide_eq_false h,Bool.and_false]
theorem my {b:List UInt8} {r:Rw} (h1:a7 r=true) (h:n0 r=b.length):fR b r=true:=by unfold fR;rw [h1,decide_eq_true h];rfl
theorem Ew {b:List UInt8} {r:Rw} (h:fR b r=true):a7 r=true∧n0 r=b.length:=by
 unfold fR at h
 simp only [Bool.and_eq_true,decide_eq_true_eq] at h
 exact h

def vK (m k:Nat):List UInt8:=(List.replicate m 0).set k 1
def P9:List V→Option (Prop×V×List Blk)
 |[.sl false .str r,.int .i64 h]=>some (r.length≤1048576,.tup [.str (dK r h),.int .i64 (tQ r h)], [])
 |_=>none
theorem aAz (r:List (List UInt8)) (h:Int):bH (En Tn tys G6 []) Tryd.f44 [.k,.k] P9 [.sl false .str r,.int .i64 h]:=by
 intro hp0
 refine⟨om (r.length≤1048576),yn (¬(a7 r=true)) (fun h0=> ?_) fun h0=> ?_⟩
 ·have e:tQ r h=1:=if_neg h0
  rw [dK,if_neg (by rw [e];decide),e]
  exact a6
 ·have hr:=nw h0
  obtain⟨r1,r2,r3,r4⟩:=l8 hr
  have r5:∀x∈r,x.length≤1048576:=fun s hs=>Nat.le_trans (Cr hr s hs) (by omega)
  refine⟨rfl,trivial,yn (¬(gG h)) (fun h1=> ?_) fun h1=> ?_⟩
  ·have e:tQ r h=8:=by unfold tQ;rw [if_pos hr,if_neg h1]
   rw [dK,if_neg (by rw [e];decide),e]
   exact a6
  ·have hk:=nw h1
   obtain⟨k1,k2⟩:=id hk
   refine⟨ap (h+1),⟨om (1≤r.length),om (r.length≤1000000),by first|assumption|simp⟩,?_⟩
   have e:tQ r h=0:=by unfold tQ;rw [if_pos hr,if_pos hk]
   rw [dK,if_pos e,e]
   exact a6
def Tb:List (Nat×bW):=(44,aW [.v (.sl .str),.v (.int .i64)] P9)::Tn
theorem aAG:Known Tryd.prog (En Tb tys G6 []):=aAQ.addQ Tryd.func44 Tryd.call44 [.k,.k] fun ds _ _ _ h=>by unfold P9 at h;split at h;exact aAz _ _;cases h
def yQ:List V→Option (Prop×V×List Blk)
 |[.agg [.int .i64 nd,.sl false (.sl .str) cf]]=>some (cf.length≤1048576∧(∀l∈cf,l.length≤1048576∧∀x∈l,x.length≤1048576),.int .i64 (eG nd cf), [])
 |_=>none
theorem S1 (nd:Int) (cf:List (List (List UInt8))):bH (En Tb tys G6 []) Tryd.f57 [.k] yQ [.agg [.int .i64 nd,.sl false (.sl .str) cf]]:=by
 rintro⟨hp0,(hp1:(∀l∈cf,l.length≤1048576∧∀x∈l,x.length≤1048576))⟩
 refine ny (nd<2) (fun h0=> ?_) fun h0=> ?_
 ·refine yn (12<nd) (fun h1=> ?_) fun h1=> ?_
  ·have e:eG nd cf=3:=by unfold eG;rw [if_pos (by omega)]
   rw [e]
   exact a6
  ·refine⟨ap (nd-1),yn ((cf.length:Int)≠(nd-1)) (fun h2=> ?_) fun h2=> ?_⟩
   ·have e:eG nd cf=1:=by unfold eG;rw [if_neg (by omega:¬(nd<2∨12<nd)),if_pos (by omega)]
    rw [e]
    exact a6
   ·refine⟨1, [(1,.k),(3,.k),(27,.k),(28,.k),(29,.k)],fun nM vs H=>∃(k:Nat),k≤cf.length∧(cf.drop k).all (jH cf)=cf.all (jH cf)∧nM=cf.length-k∧vs= [.p 0,.i (nd-1),.sl false (.sl .str) cf,.i (cf.length:Int),.i k]∧H= [.cells [.i nd,.sl false (.sl .str) cf]],⟨rfl,cf.length,0,by omega,rfl,by omega,rfl,rfl⟩,?_⟩
    rintro nM vs H ⟨k,hc1_0,hc1_1,rfl,rfl,rfl⟩
    refine yn ((k:Int)<(cf.length:Int)) (fun h3=> ?_) fun h3=> ?_
    ·have hk:k<cf.length:=by omega
     have hpk:=(hp1 _ (az [] cf k hk)).1
     refine⟨ix k cf.length,ny ((((cf.getD k []).length:Nat):Int)≠(nd-1)) (fun h4=> ?_) fun h4=> ?_⟩
     ·refine⟨ix 0 cf.length,yn ((((cf.getD 0 []).length:Nat):Int)≠(nd-1)) (fun h5=> ?_) fun h5=> ?_⟩
      ·have hf:cf.all (jH cf)=false:=g7 (d:= []) hk hc1_1 (Dl (by omega))
       have e:eG nd cf=1:=by unfold eG;rw [if_neg (by omega:¬(nd<2∨12<nd)),if_neg (by omega:¬((cf.length:Int)≠nd-1)),if_pos hf]
       rw [e]
       exact a6
      ·refine⟨1, [(1,.k),(3,.k),(27,.k),(28,.k),(29,.k),(46,.k),(47,.k),(48,.k)],fun nM vs H=>∃(j:Nat),j≤(cf.getD k []).length∧((cf.getD k []).drop j).all (fun s=>decide (s.length=oi cf))=(cf.getD k []).all (fun s=>decide (s.length=oi cf))∧nM=(cf.getD k []).length-j∧vs= [.p 0,.i (nd-1),.sl false (.sl .str) cf,.i (cf.length:Int),.i k,.sl false .str (cf.getD k []),.i (((cf.getD k []).length:Nat):Int),.i j]∧H= [.cells [.i nd,.sl false (.sl .str) cf]],⟨rfl,(cf.getD k []).length,0,by omega,rfl,by omega,rfl,rfl⟩,?_⟩
       rintro nM vs H ⟨j,hc2_0,hc2_1,rfl,rfl,rfl⟩
       refine yn ((j:Int)<(((cf.getD k []).length:Nat):Int)) (fun h6=> ?_) fun h6=> ?_
       ·have hj:j<(cf.getD k []).length:=by omega
        refine⟨ix j (cf.getD k []).length,ix 0 cf.length,ix 0 (cf.getD 0 []).length,yn (((((cf.getD k []).getD j []).length:Nat):Int)≠((((cf.getD 0 []).getD 0 []).length:Nat):Int)) (fun h7=> ?_) fun h7=> ?_⟩
        ·have hf:cf.all (jH cf)=false:=g7 (d:= []) hk hc1_1 (Dk (g7 (d:= []) hj hc2_1 (decide_eq_false (by unfold oi n0;omega))))
         have e:eG nd cf=1:=by unfold eG;rw [if_neg (by omega:¬(nd<2∨12<nd)),if_neg (by omega:¬((cf.length:Int)≠nd-1)),if_pos hf]
         rw [e]
         exact a6
        ·have hok:decide (((cf.getD k []).getD j []).length=oi cf)=true:=decide_eq_true (by unfold oi n0;omega)
         refine⟨ap (j+1),?_⟩
         exact⟨rfl,(cf.getD k []).length-(j+1),by omega,j+1,by omega,mi (d:= []) hj hc2_1 hok,rfl,rfl,rfl⟩
       ·have hok:=wb (cf:=cf) (l:=cf.getD k []) (by omega) (by omega) (mh (by omega) hc2_1)
        refine⟨ap (k+1),?_⟩
        exact⟨rfl,cf.length-(k+1),by omega,k+1,by omega,mi (d:= []) hk hc1_1 hok,rfl,rfl,rfl⟩
     ·have hf:cf.all (jH cf)=false:=g7 (d:= []) hk hc1_1 (Dm (by omega))
      have e:eG nd cf=1:=by unfold eG;rw [if_neg (by omega:¬(nd<2∨12<nd)),if_neg (by omega:¬((cf.length:Int)≠nd-1)),if_pos hf]
      rw [e]
      exact a6
    ·have hall:cf.all (jH cf)=true:=mh (by omega) hc1_1
     have hrows:=Hz hall
     have h00:=hrows _ (az [] cf 0 (by omega))
     refine⟨ix 0 cf.length,ix 0 (cf.getD 0 []).length,yn (4096<((((cf.getD 0 []).getD 0 []).length:Nat):Int)) (fun h8=> ?_) fun h8=> ?_⟩
     ·have e:eG nd cf=2:=by unfold eG;rw [if_neg (by omega:¬(nd<2∨12<nd)),if_neg (by omega:¬((cf.length:Int)≠nd-1)),if_neg (by rw [hall];decide),if_pos (by unfold oi n0;omega)]
      rw [e]
      exact a6
     ·refine⟨1, [(1,.k),(72,.k),(73,.k)],fun nM vs H=>∃(i:Nat),i≤cf.length∧(List.range i).all (fun a=>(List.range a).all fun b=>decide ((cf.getD a []).getD b []=(cf.getD b []).getD a []))=true∧nM=cf.length-i∧vs= [.p 0,.i (nd-1),.i i]∧H= [.cells [.i nd,.sl false (.sl .str) cf]],⟨rfl,cf.length,0,by omega,rfl,by omega,rfl,rfl⟩,?_⟩
      rintro nM vs H ⟨i,hc3_0,hc3_1,rfl,rfl,rfl⟩
      refine yn ((i:Int)<(nd-1)) (fun h9=> ?_) fun h9=> ?_
      ·have hri:=hrows _ (az [] cf i (by omega))
       refine⟨1, [(1,.k),(8,.k),(72,.k),(73,.k),(76,.k),(77,.k)],fun nM vs H=>∃(j:Nat),j≤i∧(List.range j).all (fun b=>decide ((cf.getD i []).getD b []=(cf.getD b []).getD i []))=true∧nM=i-j∧vs= [.p 0,.i i,.i (nd-1),.i i,.i i,.i j]∧H= [.cells [.i nd,.sl false (.sl .str) cf]],⟨rfl,i,0,by omega,rfl,by omega,rfl,rfl⟩,?_⟩
       rintro nM vs H ⟨j,hc4_0,hc4_1,rfl,rfl,rfl⟩
       refine yn ((j:Int)<(i:Int)) (fun h10=> ?_) fun h10=> ?_
       ·have hrj:=hrows _ (az [] cf j (by omega))
        refine⟨by kernel_rfl,ix i cf.length,ix j (cf.getD i []).length,ix j cf.length,ix i (cf.getD j []).length,yn (((cf.getD i []).getD j [])≠((cf.getD j []).getD i [])) (fun h11=> ?_) fun h11=> ?_⟩
        ·have hs:Lo cf cf.length=false:=jp (k:=i) (by omega) (jp (p:=(fun b=>decide ((cf.getD i []).getD b []=(cf.getD b []).getD i []))) (k:=j) (by omega) (decide_eq_false h11))
         have e:eG nd cf=1:=by unfold eG;rw [if_neg (by omega:¬(nd<2∨12<nd)),if_neg (by omega:¬((cf.length:Int)≠nd-1)),if_neg (by rw [hall];decide),if_neg (by unfold oi n0;omega),if_pos hs]
         rw [e]
         exact a6
        ·have hok:decide ((cf.getD i []).getD j []=(cf.getD j []).getD i [])=true:=decide_eq_true (nw h11)
         refine⟨ap (j+1),?_⟩
         exact⟨rfl,i-(j+1),by omega,j+1,by omega,v8 hc4_1 hok,rfl,rfl,rfl⟩
       ·have hok:(List.range i).all (fun b=>decide ((cf.getD i []).getD b []=(cf.getD b []).getD i []))=true:=by rw [show i=j by omega] at hc4_1 ⊢;exact hc4_1
        refine⟨ap (i+1),?_⟩
        exact⟨rfl,cf.length-(i+1),by omega,i+1,by omega,v8 hc3_1 hok,rfl,rfl,rfl⟩
      ·have hs:Lo cf cf.length=true:=by rw [show cf.length=i by omega];exact hc3_1
       have e:eG nd cf=0:=by unfold eG;rw [if_neg (by omega:¬(nd<2∨12<nd)),if_neg (by omega:¬((cf.length:Int)≠nd-1)),if_neg (by rw [hall];decide),if_neg (by unfold oi n0;omega),if_neg (by rw [hs];decide)]
       rw [e]
       exact a6
 ·have e:eG nd cf=3:=by unfold eG;rw [if_pos (by omega)]
  rw [e]
  exact a6
def za:List (Nat×bW):=(57,aW [.v (.cons (.int .i64) (.cons (.sl (.sl .str)) .nil))] yQ)::Tb
theorem Rm:Known Tryd.prog (En za tys G6 []):=aAG.addQ Tryd.func57 Tryd.call57 [.k] fun ds _ _ _ h=>by unfold yQ at h;split at h;exact S1 _ _;cases h
def Qi:List V→Option (Prop×V×List Blk)
 |[.agg [.int .i64 nd,.sl false (.sl .str) cf],.int .i64 h]=>some (cf.length≤1048576∧(∀l∈cf,l.length≤1048576∧∀x∈l,x.length≤1048576),.tup [.sl true .str (dZ nd cf h),.int .i64 (qA nd cf h)], [])
 |_=>none
theorem aBA (nd:Int) (cf:List (List (List UInt8))) (h:Int):bH (En za tys G6 []) Tryd.f40 [.d .str,.k] Qi [.agg [.int .i64 nd,.sl false (.sl .str) cf],.int .i64 h]:=by
 rintro⟨hp0,(hp1:(∀l∈cf,l.length≤1048576∧∀x∈l,x.length≤1048576))⟩
 refine⟨rfl,⟨om (cf.length≤1048576),by first|assumption|simp⟩,yn ((eG nd cf)≠0) (fun h0=> ?_) fun h0=> ?_⟩
 ·have e:qA nd cf h=eG nd cf:=if_neg h0
  rw [dZ,if_neg (by rw [e];exact h0),e]
  exact a6
 ·have hc:=nw h0
  have hd:=xR hc
  obtain⟨d1,d2,d3,d4,d5,d6,d7⟩:=id hd
  refine⟨rfl,trivial,yn (¬(gG h)) (fun h1=> ?_) fun h1=> ?_⟩
  ·have e:qA nd cf h=8:=by unfold qA;rw [if_pos hc,if_neg h1]
   rw [dZ,if_neg (by rw [e];decide),e]
   exact a6
  ·have hk:=nw h1
   obtain⟨k1,k2⟩:=id hk
   refine⟨1, [(1,.k),(7,.o .str),(19,.k),(20,.k),(21,.k)],fun nM vs H=>∃(k:Nat),k≤cf.length∧nM=cf.length-k∧vs= [.i h,.own .str 1,.sl false (.sl .str) cf,.i (cf.length:Int),.i k]∧H= [.cells [.i nd,.sl false (.sl .str) cf],.r .str ((cf.take k).map fun l=>oZ l (pt h))],⟨rfl,cf.length,0,by omega,by omega,rfl,rfl⟩,?_⟩
   rintro nM vs H ⟨k,hc1_0,rfl,rfl,rfl⟩
   refine yn ((k:Int)<(cf.length:Int)) (fun h2=> ?_) fun h2=> ?_
   ·have hkl:k<cf.length:=by omega
    have hm:=az [] cf k hkl
    have hr4:=d4 _ hm
    have hr5:∀x∈cf.getD k [],x.length≤1048576:=(hp1 _ hm).2
    have hml:((cf.take k).map fun l=>oZ l (pt h)).length=k:=by rw [List.length_map,List.length_take];omega
    refine⟨ix k cf.length,ap (h+1),⟨os (1≤(cf.getD k []).length),os ((cf.getD k []).length≤1000000),by first|assumption|simp⟩,fY,l9 ((cf.take k).map fun l=>oZ l (pt h)).length,ap (k+1),?_⟩
    exact⟨rfl,cf.length-(k+1),by omega,k+1,by omega,rfl,rfl,by rw [cL [] _ cf k hkl];rfl⟩
   ·have e:qA nd cf h=0:=by unfold qA;rw [if_pos hc,if_pos hk]
    rw [dZ,if_pos e,e,iV,show k=cf.length by omega,List.take_length]
    exact a6
def Tm:List (Nat×bW):=(40,aW [.v (.cons (.int .i64) (.cons (.sl (.sl .str)) .nil)),.v (.int .i64)] Qi)::za
theorem aAP:Known Tryd.prog (En Tm tys G6 []):=Rm.addQ Tryd.func40 Tryd.call40 [.d .str,.k] fun ds _ _ _ h=>by unfold Qi at h;split at h;exact aBA _ _ _;cases h
def Qa:List V→Option (Prop×V×List Blk)
 |[.agg [.int .i64 h,.str bs],.sl false (.sl .str) rs]=>some (rs.length≤1048576∧(∀l∈rs,l.length≤1048576),.tup [.agg [.int .i64 (rj h bs rs),.str (mw h bs rs)],.int .i64 (gZ h bs rs)], [])
 |_=>none
theorem aA0 (h:Int) (bs:List UInt8) (rs:List (List (List UInt8))):bH (En Tm tys G6 []) Tryd.f46 [.k,.k] Qa [.agg [.int .i64 h,.str bs],.sl false (.sl .str) rs]:=by
 rintro⟨hp0,(hp1:(∀l∈rs,l.length≤1048576))⟩
 refine⟨rfl,trivial,yn (¬(gG h)) (fun h0=> ?_) fun h0=> ?_⟩
 ·refine⟨cO,?_⟩
  have e:gZ h bs rs=8:=by unfold gZ;rw [if_neg h0]
  rw [rj,mw,if_neg (by rw [e];decide),if_neg (by rw [e];decide),e]
  exact a6
 ·have hk:=nw h0
  obtain⟨k1,k2⟩:=id hk
  refine yn (4096<(bs.length:Int)) (fun h1=> ?_) fun h1=> ?_
  ·refine⟨cO,?_⟩
   have e:gZ h bs rs=2:=by unfold gZ;rw [if_pos hk,if_neg (by omega)]
   rw [rj,mw,if_neg (by rw [e];decide),if_neg (by rw [e];decide),e]
   exact a6
  ·refine⟨2, [(1,.k),(2,.k),(4,.k),(20,.k),(21,.k),(22,.k)],fun nM vs H=>∃(k:Nat),k≤rs.length∧(rs.drop k).all (fR bs)=rs.all (fR bs)∧nM=rs.length-k∧vs= [.sl false (.sl .str) rs,.p 0,.p 1,.sl false (.sl .str) rs,.i (rs.length:Int),.i k]∧H= [.cells [.i h,.str bs],.cells [.i 0,.str ([])]],⟨rfl,rs.length,0,by omega,rfl,by omega,rfl,rfl⟩,?_⟩
   rintro nM vs H ⟨k,hc1_0,hc1_1,rfl,rfl,rfl⟩
   refine yn ((k:Int)<(rs.length:Int)) (fun h2=> ?_) fun h2=> ?_
   ·have hkl:k<rs.length:=by omega
    have hrl:=hp1 _ (az [] rs k hkl)
    refine⟨ix k rs.length,by kernel_rfl,os ((rs.getD k []).length≤1048576),ny (¬(a7 (rs.getD k [])=true)) (fun h3=> ?_) fun h3=> ?_⟩
    ·have hr:=nw h3
     obtain⟨r1,r2,r3,r4⟩:=l8 hr
     refine⟨fun h4=> ?_,cn (¬(a7 (rs.getD k [])=true))⟩
     refine⟨ix 0 (rs.getD k []).length,fun h5=> ?_,cn (¬(a7 (rs.getD k [])=true))⟩
     refine⟨fun h6=> ?_,cn (¬(a7 (rs.getD k [])=true))⟩
     refine⟨fun h7=> ?_,cn (¬(a7 (rs.getD k [])=true))⟩
     refine⟨fun h8=> ?_,cn (¬(a7 (rs.getD k [])=true))⟩
     refine⟨fun h9=> ?_,cn (¬(a7 (rs.getD k [])=true))⟩
     refine⟨fun h10=> ?_,cn (¬(a7 (rs.getD k [])=true))⟩
     refine⟨cn (¬(a7 (rs.getD k [])=true)),fun h11=> ?_⟩
     refine yn (((((rs.getD k []).getD 0 []).length:Nat):Int)≠(bs.length:Int)) (fun h12=> ?_) fun h12=> ?_
     ·refine⟨cO,?_⟩
      have hf:rs.all (fR bs)=false:=g7 (d:= []) hkl hc1_1 (yD (by unfold n0;omega))
      have e:gZ h bs rs=1:=by unfold gZ;rw [if_pos hk,if_pos (by omega),if_neg (by rw [hf];decide)]
      rw [rj,mw,if_neg (by rw [e];decide),if_neg (by rw [e];decide),e]
      exact a6
     ·have hok:=my (b:=bs) hr (by unfold n0;omega)
      refine⟨ap (k+1),?_⟩
      exact⟨rfl,rs.length-(k+1),by omega,k+1,by omega,mi (d:= []) hkl hc1_1 hok,rfl,rfl,rfl⟩
    ·refine⟨cp (¬(a7 (rs.getD k [])=true)),fun h13=> ?_⟩
     refine⟨cp (¬(a7 (rs.getD k [])=true)),fun h14=> ?_⟩
     refine⟨cp (¬(a7 (rs.getD k [])=true)),fun h15=> ?_⟩
     refine⟨cp (¬(a7 (rs.getD k [])=true)),fun h16=> ?_⟩
     refine⟨cp (¬(a7 (rs.getD k [])=true)),fun h17=> ?_⟩
     refine⟨cp (¬(a7 (rs.getD k [])=true)),fun h18=> ?_⟩
     refine⟨cp (¬(a7 (rs.getD k [])=true)),fun h19=> ?_⟩
     refine⟨fun h20=> ?_,cp (¬(a7 (rs.getD k [])=true))⟩
     refine⟨cO,?_⟩
     have hf:rs.all (fR bs)=false:=g7 (d:= []) hkl hc1_1 (yE h3)
     have e:gZ h bs rs=1:=by unfold gZ;rw [if_pos hk,if_pos (by omega),if_neg (by rw [hf];decide)]
     rw [rj,mw,if_neg (by rw [e];decide),if_neg (by rw [e];decide),e]
     exact a6
   ·have hall:rs.all (fR bs)=true:=mh (by omega) hc1_1
    have hev:=List.all_eq_true.1 hall
    refine⟨2, [(2,.k),(4,.k),(41,.k),(42,.k),(43,.k)],fun nM vs H=>∃(k:Nat),k≤rs.length∧nM=rs.length-k∧vs= [.p 0,.p 1,.sl false (.sl .str) rs,.i (rs.length:Int),.i k]∧H= [.cells [.i h,.str (kq h bs (rs.take k))],.cells [.i 0,.str ([])]],⟨rfl,rs.length,0,by omega,by omega,rfl,rfl⟩,?_⟩
    rintro nM vs H ⟨k,hc2_0,rfl,rfl,rfl⟩
    refine yn ((k:Int)<(rs.length:Int)) (fun h21=> ?_) fun h21=> ?_
    ·have hkm:k<rs.length:=by omega
     obtain⟨hr,hn⟩:=Ew (hev _ (az [] rs k hkm))
     obtain⟨r1,r2,r3,r4⟩:=l8 hr
     have hl1:=zl (h:=h) (b:=bs) (rs.take k) bs rfl (fun x hx=>hev x (List.mem_of_mem_take hx))
     replace hn:((rs.getD k []).getD 0 []).length=bs.length:=hn
     refine⟨ix k rs.length,by kernel_rfl,ap (h+1),ix 0 (rs.getD k []).length,os (((rs.getD k []).getD 0 []).length≤1000000000),⟨os (1≤([kq h bs (rs.take k),cR (UInt8.ofNat ((h+1)%256).toNat) ((rs.getD k []).getD 0 [])]:List (List UInt8)).length),os (([kq h bs (rs.take k),cR (UInt8.ofNat ((h+1)%256).toNat) ((rs.getD k []).getD 0 [])]:List (List UInt8)).length≤1000000),by show(∀x∈([kq h bs (rs.take k),cR (UInt8.ofNat ((h+1)%256).toNat) ((rs.getD k []).getD 0 [])]:List (List UInt8)),x.length≤1048576);exact zo (by omega) (by rw [cD];omega)⟩,gY,ap (k+1),?_⟩
     exact⟨rfl,rs.length-(k+1),by omega,k+1,by omega,rfl,rfl,by rw [Ev hkm];rfl⟩
    ·refine⟨cO,?_⟩
     have e:gZ h bs rs=0:=by unfold gZ;rw [if_pos hk,if_pos (by omega),if_pos hall]
     rw [rj,mw,if_pos e,if_pos e,e,show kq h bs rs=kq h bs (rs.take k) by rw [List.take_of_length_le (by omega)]]
     exact a6
def rh:List (Nat×bW):=(46,aW [.v (.cons (.int .i64) (.cons .str .nil)),.v (.sl (.sl .str))] Qa)::Tm
theorem aAH:Known Tryd.prog (En rh tys G6 []):=aAP.addQ Tryd.func46 Tryd.call46 [.k,.k] fun ds _ _ _ h=>by unfold Qa at h;split at h;exact aA0 _ _ _;cases h
theorem H9 {P:Prop} {v:Go.Proofs.YtailffhfhekkpaaDoor.Vc.V} (h:((true=true)∧(true=true)∧(v=v)∧(([]:List Go.Proofs.YtailffhfhekkpaaDoor.Vc.Blk)= []))=P):P:=Eq.mp h ⟨rfl,rfl,rfl,rfl⟩
theorem Lz {nd sz:Int} (h2:2≤nd) (h12:nd≤12) (hz:0≤sz) (h4:sz≤4096):(0≤sz*(nd-1)∧sz*(nd-1)≤45056)∧(0≤(sz*(nd-1))*((nd-1)+1)∧(sz*(nd-1))*((nd-1)+1)≤540672)∧((sz*(nd-1))*((nd-1)+1))/2=sz*(((nd-1)*nd)/2):=by
 obtain rfl|rfl|rfl|rfl|rfl|rfl|rfl|rfl|rfl|rfl|rfl:nd=2∨nd=3∨nd=4∨nd=5∨nd=6∨nd=7∨nd=8∨nd=9∨nd=10∨nd=11∨nd=12:=by omega
 all_goals omega
theorem yy {p X Y:Prop} (h:p) (x:X):(p→X)∧(¬p→Y):=⟨fun _=>x,fun g=>absurd h g⟩
theorem nn {p X Y:Prop} (h:¬p) (y:Y):(p→X)∧(¬p→Y):=⟨fun g=>absurd g h,fun _=>y⟩
theorem ww {α β:Sort _} {a:α} {b:β}:a=a∧b=b:=⟨rfl,rfl⟩
theorem ri {α β γ:Sort _} {a:α} {b:β} {c:γ}:a=a∧b=b∧c=c:=⟨rfl,rfl,rfl⟩
theorem q {p:Prop} [d:Decidable p] (h:Decidable.decide p=true:=by kernel_rfl):p:=of_decide_eq_true h
def dn (z:Nat):Nat→List UInt8→List UInt8
 |0,s=>s
 |k+1,s=>(dn z k s).drop z
theorem Pj (z:Nat):∀(k:Nat) (s:List UInt8),dn z k s=s.drop (k*z)
 |0,s=>by simp [dn]
 |k+1,s=>by rw [dn,Pj z k s,List.drop_drop,Nat.succ_mul]
theorem zG (z k:Nat) (s:List UInt8):(dn z k s).length=s.length-k*z:=by rw [Pj,List.length_drop]
theorem s7 {sz:Int} {s:List UInt8} (K:Nat) (h0:0≤sz) (hl:(s.length:Int)=sz*(K:Int)) (k:Nat) (hk:k<K:=by decide):0≤sz∧sz≤((dn sz.toNat k s).length:Int):=by
 refine⟨h0,?_⟩
 rw [zG]
 obtain⟨z,rfl⟩:=Int.eq_ofNat_of_zero_le h0
 have h1:s.length=z*K:=by exact_mod_cast hl
 have h2:(k+1)*z≤K*z:=Nat.mul_le_mul_right z hk
 rw [Nat.succ_mul] at h2
 rw [h1,Nat.mul_comm z K]
 show(z:Int)≤((K*z-k*z:Nat):Int)
 omega
def wJ (m a b:Nat):Nat:=bif Nat.ble a b then a*m-a*(a-1)/2+(b-a) else b*m-b*(b-1)/2+(a-b)
def mr (m z:Nat) (s:List UInt8):List Rw:=(List.range m).map fun a=>(List.range m).map fun b=>(dn z (wJ m a b) s).take z
def oM (nd sz:Int) (s:List UInt8):Int:=if nd<2∨12<nd∨sz<0∨4096<sz then 3 else if(s.length:Int)=sz*(((nd-1)*nd)/2) then 0 else 1
def oj (nd sz:Int) (s:List UInt8):Int:=if oM nd sz s=0 then nd else 0
def kz (nd sz:Int) (s:List UInt8):List Rw:=if oM nd sz s=0 then mr (nd-1).toNat sz.toNat s else []
theorem Z8 {nd sz:Int} {s:List UInt8} (h:nd<2∨12<nd∨sz<0∨4096<sz):oM nd sz s=3∧oj nd sz s=0∧kz nd sz s= []:=by
 have e:oM nd sz s=3:=if_pos h
 refine⟨e,if_neg (by rw [e];decide),if_neg (by rw [e];decide)⟩
theorem Z9 {nd sz:Int} {s:List UInt8} (h:¬(nd<2∨12<nd∨sz<0∨4096<sz)) (hl:(s.length:Int)≠sz*(((nd-1)*nd)/2)):oM nd sz s=1∧oj nd sz s=0∧kz nd sz s= []:=by
 have e:oM nd sz s=1:=by unfold oM;rw [if_neg h,if_neg hl]
 refine⟨e,if_neg (by rw [e];decide),if_neg (by rw [e];decide)⟩
theorem aAA {nd sz:Int} {s:List UInt8} (h:¬(nd<2∨12<nd∨sz<0∨4096<sz)) (hl:(s.length:Int)=sz*(((nd-1)*nd)/2)):oM nd sz s=0∧oj nd sz s=nd∧kz nd sz s=mr (nd-1).toNat sz.toNat s:=by
 have e:oM nd sz s=0:=by unfold oM;rw [if_neg h,if_pos hl]
 refine⟨e,if_pos e,if_pos e⟩
theorem aBR (nd sz:Int) (nz:List UInt8) (hn:nd<2∨12<nd∨sz<0∨4096<sz):bI (En rh tys G6 [] [1000000,1000001]) Tryd.f39 [.m 1 .str,.k] [.int .i64 nd,.int .i64 sz,.str nz] (.tup [.agg [.int .i64 0,.sl true (.sl .str) []],.int .i64 3]) []:=by
 refine ny (nd<2) (fun h0=> ?_) fun h0=> ?_
 ·refine ny (12<nd) (fun h1=> ?_) fun h1=> ?_
  ·refine ny (sz<0) (fun h2=> ?_) fun h2=> ?_
   ·refine yn (4096<sz) (fun h3=> ?_) fun h3=> ?_
    ·refine⟨cO,?_⟩
     exact H9 (v:= .tup [.agg [.int .i64 0,.sl true (.sl .str) []],.int .i64 3]) (by kernel_rfl)
    ·omega
   ·refine⟨cO,?_⟩
    exact H9 (v:= .tup [.agg [.int .i64 0,.sl true (.sl .str) []],.int .i64 3]) (by kernel_rfl)
  ·refine⟨cO,?_⟩
   exact H9 (v:= .tup [.agg [.int .i64 0,.sl true (.sl .str) []],.int .i64 3]) (by kernel_rfl)
 ·refine⟨cO,?_⟩
  exact H9 (v:= .tup [.agg [.int .i64 0,.sl true (.sl .str) []],.int .i64 3]) (by kernel_rfl)
theorem aBK (nd sz:Int) (nz:List UInt8) (g2:2≤nd) (g12:nd≤12) (hz:0≤sz) (hs4:sz≤4096) (hb1:0≤sz*(nd-1)∧sz*(nd-1)≤45056) (hb2:0≤(sz*(nd-1))*((nd-1)+1)∧(sz*(nd-1))*((nd-1)+1)≤540672) (hl:¬(nz.length:Int)=((sz*(nd-1))*((nd-1)+1))/2):bI (En rh tys G6 [] [1000000,1000001]) Tryd.f39 [.m 1 .str,.k] [.int .i64 nd,.int .i64 sz,.str nz] (.tup [.agg [.int .i64 0,.sl true (.sl .str) []],.int .i64 1]) []:=by
 refine ny (nd<2) (fun h0=> ?_) fun h0=> ?_
 ·refine ny (12<nd) (fun h1=> ?_) fun h1=> ?_
  ·refine ny (sz<0) (fun h2=> ?_) fun h2=> ?_
   ·refine yn (4096<sz) (fun h3=> ?_) fun h3=> ?_
    ·omega
    ·refine⟨ap (nd-1),ap (sz*(nd-1)),ap ((nd-1)+1),ap ((sz*(nd-1))*((nd-1)+1)),.inl ⟨⟨om ((0:Int)≤((sz*(nd-1))*((nd-1)+1))),om ((0:Int)<2)⟩,?_⟩⟩
     refine yn ((nz.length:Int)≠(((sz*(nd-1))*((nd-1)+1))/2)) (fun h4=> ?_) fun h4=> ?_
     ·refine⟨cO,?_⟩
      exact H9 (v:= .tup [.agg [.int .i64 0,.sl true (.sl .str) []],.int .i64 1]) (by kernel_rfl)
     ·exact absurd (nw h4) hl
   ·omega
  ·omega
 ·omega
theorem aBQ (sz:Int) (nz:List UInt8) (hz:0≤sz) (h1:sz≤4096) (hl:(nz.length:Int)=sz*((1:Nat):Int)):bI (En rh tys G6 [] [1000000,1000001]) Tryd.f39 [.m 1 .str,.k] [.int .i64 2,.int .i64 sz,.str nz] (.tup [.agg [.int .i64 2,.sl true (.sl .str) (mr 1 sz.toNat nz)],.int .i64 0]) []:=by
 have c:= @s7 sz nz 1 hz hl
 refine⟨fun h0=> ?_,cn ((2:Int)<2)⟩
 refine⟨fun h1=> ?_,cn ((12:Int)<2)⟩
 refine ny (sz<0) (fun h2=> ?_) fun h2=> ?_
 ·refine yn (4096<sz) (fun h3=> ?_) fun h3=> ?_
  ·omega
  ·refine⟨q,ap (sz*1),q,ap ((sz*1)*2),.inl ⟨⟨om ((0:Int)≤((sz*1)*2)),om ((0:Int)<2)⟩,?_⟩⟩
   refine yn ((nz.length:Int)≠(((sz*1)*2)/2)) (fun h4=> ?_) fun h4=> ?_
   ·omega
   ·refine⟨⟨rfl,by decide,by decide⟩,cO,.inr ?_⟩
    refine yy q ?_
    refine⟨by kernel_rfl,⟨rfl,om ((0:Int)≤1),om (1≤(1000000000:Int))⟩,q,ri,q,nn q ?_⟩
    refine .inr (yy q ?_)
    refine .inr (yy q ?_)
    refine⟨by kernel_rfl,q,q,(c 0 q),(c 0 q),q,ww,q,ww,(c 0 q),q,nn q ?_⟩
    refine⟨q,nn q ?_⟩
    refine⟨cO,?_⟩
    exact H9 (v:= .tup [.agg [.int .i64 2,.sl true (.sl .str) (mr 1 sz.toNat nz)],.int .i64 0]) (by kernel_rfl)
 ·omega
theorem aBP (sz:Int) (nz:List UInt8) (hz:0≤sz) (h1:sz≤4096) (hl:(nz.length:Int)=sz*((3:Nat):Int)):bI (En rh tys G6 [] [1000000,1000001]) Tryd.f39 [.m 1 .str,.k] [.int .i64 3,.int .i64 sz,.str nz] (.tup [.agg [.int .i64 3,.sl true (.sl .str) (mr 2 sz.toNat nz)],.int .i64 0]) []:=by
 have c:= @s7 sz nz 3 hz hl
 refine⟨fun h0=> ?_,cn ((3:Int)<2)⟩
 refine⟨fun h1=> ?_,cn ((12:Int)<3)⟩
 refine ny (sz<0) (fun h2=> ?_) fun h2=> ?_
 ·refine yn (4096<sz) (fun h3=> ?_) fun h3=> ?_
  ·omega
  ·refine⟨q,ap (sz*2),q,ap ((sz*2)*3),.inl ⟨⟨om ((0:Int)≤((sz*2)*3)),om ((0:Int)<2)⟩,?_⟩⟩
   refine yn ((nz.length:Int)≠(((sz*2)*3)/2)) (fun h4=> ?_) fun h4=> ?_
   ·omega
   ·refine⟨⟨rfl,by decide,by decide⟩,cO,.inr ?_⟩
    refine yy q ?_
    refine⟨by kernel_rfl,⟨rfl,om ((0:Int)≤2),om (2≤(1000000000:Int))⟩,q,ri,q,yy q ?_⟩
    refine⟨by kernel_rfl,⟨rfl,om ((0:Int)≤2),om (2≤(1000000000:Int))⟩,q,ri,q,nn q ?_⟩
    refine .inr (yy q ?_)
    refine .inr (yy q ?_)
    refine⟨by kernel_rfl,q,q,(c 0 q),(c 0 q),q,ww,q,ww,(c 0 q),q,yy q ?_⟩
    refine⟨by kernel_rfl,q,q,(c 1 q),(c 1 q),q,ww,q,ww,(c 1 q),q,nn q ?_⟩
    refine⟨q,yy q ?_⟩
    refine .inr (yy q ?_)
    refine⟨by kernel_rfl,q,q,(c 2 q),(c 2 q),q,ww,q,ww,(c 2 q),q,nn q ?_⟩
    refine⟨q,nn q ?_⟩
    refine⟨cO,?_⟩
    exact H9 (v:= .tup [.agg [.int .i64 3,.sl true (.sl .str) (mr 2 sz.toNat nz)],.int .i64 0]) (by kernel_rfl)
 ·omega
end Go.Proofs.YtailffhfhekkpaaDoor.S62

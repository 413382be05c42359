/- Texts of this claim. -/
import Derived.Test.YtogipicegdbhdaaDoorS0
import Derived.Test.YtogipicegdbhdaaDoorVc10
import Derived.KernelRfl
set_option linter.unusedVariables false
set_option linter.unusedSimpArgs false
namespace Go.Proofs.YtogipicegdbhdaaDoor.S72
set_option maxHeartbeats 20000000
open Go Go.Proofs.YtogipicegdbhdaaDoor.Vc Go.Proofs
set_option maxRecDepth 100000
theorem i9 (z x:UInt8):aB z [x,1]=z^^^x:=by
 show aI (aI 0 z^^^1) z^^^x=_
 rw [bM,UInt8.zero_xor,jp]
theorem fV (z c:UInt8):aB z [c]=c:=by
 show aI 0 z^^^c=c
 rw [bM,UInt8.zero_xor]
theorem lw (x:UInt8):aF [x,1]= [x,1]:=fi 1 [x]
theorem yK (x:UInt8):sz [x,1]=2:=by unfold sz;rw [lw];rfl
theorem fM {a b:UInt8}:a^^^b=0↔a=b:=UInt8.xor_eq_zero_iff
theorem Rk {p:List UInt8} (h:sz p≤1) (z:UInt8):aB z p=co p 0:=by
 have e:∀i,co p i=co [co p 0] i:=fun i=>by
  cases i with
  |zero=>rfl
  |succ i=>rw [eV];exact ed p _ (by omega)
 rw [qw z e,fV]
theorem Mx (p:List UInt8):dC [p, []]=aF p:=by rw [l8,pf]
theorem zM (p:List UInt8) (x:UInt8) (h:aB x p=0):aF p=aw (bO p [x,1]) [x,1]:=by
 have hb:aF [x,1]≠ []:=by rw [lw];simp
 have h1:=ui p [x,1] hb
 have h2:=uj p [x,1] hb
 rw [yK] at h2
 have h3:aB x (aF (en p [x,1]).2)=0:=by
  have:=congrArg (aB x) h1
  rw [dU,be,i9,UInt8.xor_self,bN,UInt8.zero_xor] at this
  rw [this,au,h]
 have h4:aF (en p [x,1]).2= []:=by
  refine gq _ fun i=> ?_
  cases i with
  |zero=>rw [au,Rk (by omega)] at h3;exact h3
  |succ i=>exact ed _ _ (by omega)
 rw [h4,Mx] at h1
 rw [←h1]
 exact fb _ _
theorem m9 (p:List UInt8) (x:UInt8) (h:aB x p=0) (hp:aF p≠ []):aF (bO p [x,1])≠ []∧sz (bO p [x,1])+1=sz p:=by
 have h1:=zM p x h
 have hq:aF (bO p [x,1])≠ []:=fun e=>by
  rw [gY _ _ e] at h1
  exact hp h1
 have h2:=kJ (bO p [x,1]) [x,1] hq (by rw [lw];simp)
 rw [yK] at h2
 have h3:sz p=sz (aw (bO p [x,1]) [x,1]):=by rw [←h1,l5]
 exact⟨hq,by omega⟩
theorem qG:∀(xs:List UInt8) (p:List UInt8),xs.Nodup→(∀x∈xs,aB x p=0)→aF p≠ []→xs.length<sz p
 |[],p,_,_,hp=>List.length_pos_iff.2 hp
 | x::xs,p,hn,h,hp=>by
  have h1:=zM p x (h x (by simp))
  obtain⟨h2,h3⟩:=m9 p x (h x (by simp)) hp
  rw [List.nodup_cons] at hn
  have:=qG xs (bO p [x,1]) hn.2 (fun z hz=>by
   have h4:aB z (aF p)=0:=by rw [au];exact h z (by simp [hz])
   rw [h1,be,i9] at h4
   rcases iu h4 with e|e
   ·exact e
   ·exact absurd (fM.1 e▸hz) hn.1) h2
  simp only [List.length_cons]
  omega
theorem Dg (xs p:List UInt8) (hn:xs.Nodup) (h:∀x∈xs,aB x p=0) (hs:sz p≤xs.length):aF p= []:=
 Classical.byContradiction fun hp=>by
  have:=qG xs p hn h hp
  omega
theorem db (xs p q:List UInt8) (hn:xs.Nodup) (h:∀x∈xs,aB x p=aB x q) (hp:sz p≤xs.length) (hq:sz q≤xs.length):aF p=aF q:=by
 have hz:aF (cC p q)= []:=Dg xs _ hn (fun x hx=>by rw [cz,h x hx,UInt8.xor_self]) (py fun i hi=>by rw [ni,ed p i (by omega),ed q i (by omega)];rfl)
 refine fh _ _ fun i=> ?_
 have:co (cC p q) i=0:=by rw [←dN,hz];rfl
 rw [ni] at this
 exact fM.1 this

theorem sS (z:UInt8):∀(xs p:List UInt8),(z∈xs→aB z (xs.foldl (fun p x=>aw p [x,1]) p)=0)∧(aB z p=0→aB z (xs.foldl (fun p x=>aw p [x,1]) p)=0)
 |[],p=>⟨fun h=>by simp at h,fun h=>h⟩
 |x::xs,p=>by
  obtain⟨h1,h2⟩:=sS z xs (aw p [x,1])
  refine⟨fun h=> ?_,fun h=>h2 (by rw [be,h,bM])⟩
  rcases List.mem_cons.1 h with e|e
  ·exact h2 (by rw [be,i9,e,UInt8.xor_self,bN])
  ·exact h1 e
theorem jf (xs:List UInt8) (z:UInt8) (h:z∈xs):aB z (ar xs)=0:=(sS z xs [1]).1 h
theorem v9:∀(xs p:List UInt8),aF p≠ []→aF (xs.foldl (fun p x=>aw p [x,1]) p)≠ []∧sz (xs.foldl (fun p x=>aw p [x,1]) p)=sz p+xs.length
 |[],p,h=>⟨h,rfl⟩
 | x::xs,p,h=>by
  have hl:aF [x,1]≠ []:=by rw [lw];simp
  have h1:=kJ p [x,1] h hl
  rw [yK] at h1
  have h2:aF (aw p [x,1])≠ []:=fun e=>by
   rw [fb] at e
   rcases wP e with e|e
   ·exact h e
   ·exact hl e
  obtain⟨h3,h4⟩:=v9 xs (aw p [x,1]) h2
  exact⟨h3,by show sz (xs.foldl _ (aw p [x,1]))=_;rw [h4];simp only [List.length_cons];omega⟩
theorem gr:aF [1]= [1]:=fi 1 []
theorem eE (xs:List UInt8):aF (ar xs)≠ []∧sz (ar xs)=xs.length+1:=by
 obtain⟨h1,h2⟩:=v9 xs [1] (by rw [gr];simp)
 refine⟨h1,?_⟩
 have:sz [1]=1:=by unfold sz;rw [gr];rfl
 unfold ar
 omega

theorem Hu (xs:List UInt8) (hn:xs.Nodup) (x y z:UInt8) (hx:x∈xs) (hz:z∈xs):aB z (fm (ar xs) x y)=if z=x then y else 0:=by
 have hr:=jf xs
 have h1:=zM (ar xs) x (hr x hx)
 have hs:=m9 (ar xs) x (hr x hx) (eE xs).1
 have hq:∀z∈xs,z≠x→aB z (bO (ar xs) [x,1])=0:=fun z hz hne=>by
  have h4:aB z (aF (ar xs))=0:=by rw [au];exact hr z hz
  rw [h1,be,i9] at h4
  rcases iu h4 with e|e
  ·exact e
  ·exact absurd (fM.1 e) hne
 have hx0:aB x (bO (ar xs) [x,1])≠0:=fun e=>by
  have:=qG xs (bO (ar xs) [x,1]) hn (fun z hz=>by
   by_cases hzx:z=x
   ·rw [hzx];exact e
   ·exact hq z hz hzx) hs.1
  have:=(eE xs).2
  omega
 unfold fm
 rw [be,fV]
 by_cases hzx:z=x
 ·rw [if_pos hzx,hzx]
  have:∀a b:UInt8,a≠0→aI a (aI b (dT a))=b:=fun a b ha=>by
   rw [a9 b,←eI,mJ a ha,jp]
  exact this _ _ hx0
 ·rw [if_neg hzx,hq z hz hzx,bM]
theorem Nb (xs:List UInt8) (x y:UInt8) (hx:x∈xs):sz (fm (ar xs) x y)≤xs.length:=by
 have hs:=m9 (ar xs) x (jf xs x hx) (eE xs).1
 have h1:=(eE xs).2
 unfold fm
 have h2:=pu (bO (ar xs) [x,1]) [aI y (dT (aB x (bO (ar xs) [x,1])))]
 have h3:=jU [aI y (dT (aB x (bO (ar xs) [x,1])))]
 simp only [List.length_cons,List.length_nil] at h3
 omega
def at1 (z:UInt8) (zs:List (UInt8×UInt8)) (s:UInt8):UInt8:=zs.foldl (fun s q=>s^^^(if z=q.1 then q.2 else 0)) s
theorem vX (xs:List UInt8) (hn:xs.Nodup) (z:UInt8) (hz:z∈xs):∀(zs:List (UInt8×UInt8)) (p:List UInt8),(∀q∈zs,q.1∈xs)→aB z (zs.foldl (fun p q=>dC [p,fm (ar xs) q.1 q.2]) p)=at1 z zs (aB z p)
 |[],p,_=>rfl
 |q::zs,p,h=>by
  show aB z (zs.foldl _ (dC [p,fm (ar xs) q.1 q.2]))=at1 z zs (aB z p^^^(if z=q.1 then q.2 else 0))
  rw [vX xs hn z hz zs _ (fun r hr=>h r (by simp [hr])),dU,Hu xs hn q.1 q.2 z (h q (by simp)) hz]
theorem Cb (z:UInt8):∀(xs ys:List UInt8) (s:UInt8),xs.Nodup→xs.length=ys.length→(z∉xs→at1 z (xs.zip ys) s=s)∧∀k,k<xs.length→xs.getD k 0=z→at1 z (xs.zip ys) s=s^^^ys.getD k 0
 |[],ys,s,_,_=>⟨fun _=>rfl,fun k h=>by simp at h⟩
 |x::xs, [],s,_,h=>by simp at h
 | x::xs,y::ys,s,hn,hl=>by
  rw [List.nodup_cons] at hn
  have ih:=fun s=>Cb z xs ys s hn.2 (by simpa using hl)
  refine⟨fun h=> ?_,fun k hk he=> ?_⟩
  ·have hne:z≠x:=fun e=>h (by simp [e])
   show at1 z (xs.zip ys) (s^^^if z=x then y else 0)=s
   rw [if_neg hne,(ih _).1 (fun hm=>h (by simp [hm]))]
   simp
  ·show at1 z (xs.zip ys) (s^^^if z=x then y else 0)=_
   cases k with
   |zero=>
    have e:x=z:=he
    rw [if_pos e.symm,(ih _).1 (e▸hn.1)]
    rfl
   |succ k=>
    have he:xs.getD k 0=z:=he
    have hk:k<xs.length:=by simpa using hk
    have hm:z∈xs:=by rw [←he];simp [List.getElem?_eq_getElem hk]
    have hne:z≠x:=fun e=>hn.1 (e▸hm)
    rw [if_neg hne,(ih _).2 k hk he]
    simp
theorem pr (xs ys:List UInt8) (h:bv xs ys) (k:Nat) (hk:k<xs.length):aB (xs.getD k 0) (e8 xs ys)=ys.getD k 0:=by
 have hm:xs.getD k 0∈xs:=by simp [List.getElem?_eq_getElem hk]
 have h1:=vX xs h.1 _ hm (xs.zip ys) [] fun q hq=>(List.of_mem_zip hq).1
 have h2:=(Cb (xs.getD k 0) xs ys (aB (xs.getD k 0) []) h.1 h.2).2 k hk rfl
 unfold e8 vZ
 rw [h1,h2]
 show 0^^^_=_
 simp
theorem zy (xs:List UInt8):∀(zs:List (UInt8×UInt8)) (p:List UInt8),(∀q∈zs,q.1∈xs)→sz p≤xs.length→sz (zs.foldl (fun p q=>dC [p,fm (ar xs) q.1 q.2]) p)≤xs.length
 |[],p,_,h=>h
 |q::zs,p,hq,h=>zy xs zs _ (fun r hr=>hq r (by simp [hr])) (gv _ _ _ h (Nb xs q.1 q.2 (hq q (by simp))))
theorem pB (xs ys:List UInt8):sz (e8 xs ys)≤xs.length:=zy xs _ [] (fun q hq=>(List.of_mem_zip hq).1) (Nat.zero_le _)
theorem nZ {α:Type} (f:List UInt8→α→List UInt8) (hf:∀p a,aF (f p a)=f p a):∀(l:List α) (p:List UInt8),aF p=p→aF (l.foldl f p)=l.foldl f p
 |[],p,h=>h
 |a::l,p,_=>nZ f hf l _ (hf p a)
theorem sJ (xs ys:List UInt8):aF (e8 xs ys)=e8 xs ys:=nZ _ (fun p q=>gz _ _) _ _ rfl
theorem vV (xs ys p:List UInt8) (h:bv xs ys) (hp:sz p≤xs.length) (hv:∀k,k<xs.length→aB (xs.getD k 0) p=ys.getD k 0):e8 xs ys=aF p:=by
 rw [←sJ]
 refine db xs _ _ h.1 (fun x hx=> ?_) (pB xs ys) hp
 obtain⟨k,hk,rfl⟩:=List.mem_iff_getElem.1 hx
 have e:xs.getD k 0=xs[k]:=by simp [List.getElem?_eq_getElem hk]
 rw [←e,pr xs ys h k hk,hv k hk]
set_option linter.unusedVariables false
def lX (a b:List UInt8) (d w:Int):List UInt8×List Int×Int:=(ac a b d w).getD ([], [],0)
def Qe:List V→Option (Prop×V×List Blk)
 |[.sl false .u8 a,.sl false .u8 b,.int .i64 d,.int .i64 w]=>some (a.length≤10000∧b.length≤10000∧(ac a b d w).isSome=true,.tup [.own .u8 0,.own (.int .i64) 1,.int .i64 ((lX a b d w).2.2)], [.row true .u8 ((lX a b d w).1),.row true (.int .i64) ((lX a b d w).2.1)])
 |_=>none
theorem Zt (a b:List UInt8) (d w:Int) (hp0:a.length≤10000) (hp1:b.length≤10000) (hp2:(ac a b d w).isSome=true):bL (En C23 tys G6 []) Tryd.f89 [.o .u8,.o (.int .i64),.k] [.sl false .u8 a,.sl false .u8 b,.int .i64 d,.int .i64 w] (.tup [.own .u8 0,.own (.int .i64) 1,.int .i64 ((lX a b d w).2.2)]) [.row true .u8 ((lX a b d w).1),.row true (.int .i64) ((lX a b d w).2.1)]:=by
 obtain⟨x,hx⟩:=Option.isSome_iff_exists.1 hp2
 obtain⟨p,l,e⟩:=x
 have h:=Up a b d w p l e hp0 hp1 hx
 unfold lX
 rw [hx]
 exact h
def L6:List (Nat×bI):=(89,aS [.v (.sl .u8),.v (.sl .u8),.v (.int .i64),.v (.int .i64)] Qe)::C23
theorem Yk:Known Tryd.prog (En L6 tys G6 []):=k23.add Tryd.func89 Tryd.call89 [.o .u8,.o (.int .i64),.k] fun ds p v bs h hp=>by
 unfold Qe at h
 split at h<;>simp only [Option.some.injEq,Prod.mk.injEq,reduceCtorEq] at h
 obtain⟨rfl,rfl,rfl⟩:=h
 exact Zt _ _ _ _ hp.1 hp.2.1 hp.2.2
def Md (xk:UInt8) (k:Nat):List UInt8→Nat→List UInt8→List UInt8
 |[],_,p=>p
 |x::rest,i,p=>Md xk k rest (i+1) (if i≠k then aw p [aI x (dT (xk^^^x)),dT (xk^^^x)] else p)
def Nz (xs ys:List UInt8):Nat→Nat→List UInt8→List UInt8
 |0,_,out=>out
 |f+1,k,out=>Nz xs ys f (k+1) (dC [out,Md (xs.getD k 0) k xs 0 [ys.getD k 0]])
def fq (xs ys:List UInt8):List UInt8:=Nz xs ys xs.length 0 []
def wU (xs:List UInt8) (set:Nat):Nat→List UInt8
 |0=> []
 |k+1=>if set/2^k%2=1 then wU xs set k++ [xs.getD k 0] else wU xs set k
def qK (a b:List UInt8) (d w:Int) (set:Nat):Prop:=((wU a set a.length).length:Int)=d+1∧((dt (fq (wU a set a.length) (wU b set a.length)) a b a.length).length:Int)≤w
instance (a b:List UInt8) (d w:Int) (set:Nat):Decidable (qK a b d w set):=inferInstanceAs (Decidable (_∧_))
theorem wo (z x c:UInt8):aB z [aI x c,c]=aI (z^^^x) c:=by
 show aI (aI 0 z^^^c) z^^^aI x c=_
 rw [bM,UInt8.zero_xor,a9 c z,bX]
theorem wm (z xk:UInt8) (k:Nat) (hz:z=xk):∀(xs:List UInt8) (i:Nat) (p:List UInt8),(∀m,m<xs.length→i+m≠k→xs.getD m 0≠xk)→aB z (Md xk k xs i p)=aB z p
 |[],i,p,_=>rfl
 | x::xs,i,p,h=>by
  rw [Md,wm z xk k hz xs (i+1) _ fun m hm hne=>h (m+1) (by simpa using hm) (by omega)]
  by_cases hi:i≠k
  ·rw [if_pos hi,be,wo,hz]
   have hx:x≠xk:=h 0 (by simp) (by omega)
   rw [mJ _ (fun e=>hx (fM.1 e).symm),mI]
  ·rw [if_neg hi]
theorem wn (z xk:UInt8) (k:Nat):∀(xs:List UInt8) (i:Nat) (p:List UInt8),(aB z p=0→aB z (Md xk k xs i p)=0)∧∀m,m<xs.length→i+m≠k→xs.getD m 0=z→aB z (Md xk k xs i p)=0
 |[],i,p=>⟨fun h=>h,fun m hm=>by simp at hm⟩
 | x::xs,i,p=>by
  rw [Md]
  obtain⟨h1,h2⟩:=wn z xk k xs (i+1) (if i≠k then aw p [aI x (dT (xk^^^x)),dT (xk^^^x)] else p)
  refine⟨fun h=>h1 ?_,fun m hm hne he=> ?_⟩
  ·split
   ·rw [be,h,bM]
   ·exact h
  ·cases m with
   |zero=>
    have he:x=z:=he
    refine h1 ?_
    rw [if_pos (by omega),be,wo,he,UInt8.xor_self,bM,bN]
   |succ m=>exact h2 m (by simpa using hm) (by omega) he
theorem Iw (xk:UInt8) (k:Nat):∀(xs:List UInt8) (i:Nat) (p:List UInt8),sz (Md xk k xs i p)≤sz p+xs.length∧(i≤k→k<i+xs.length→sz (Md xk k xs i p)+1≤sz p+xs.length)
 |[],i,p=>⟨Nat.le_refl _,fun h1 h2=>by simp at h2;omega⟩
 | x::xs,i,p=>by
  rw [Md]
  obtain⟨h1,h2⟩:=Iw xk k xs (i+1) (if i≠k then aw p [aI x (dT (xk^^^x)),dT (xk^^^x)] else p)
  have h3:=pu p [aI x (dT (xk^^^x)),dT (xk^^^x)]
  have h4:=jU [aI x (dT (xk^^^x)),dT (xk^^^x)]
  simp only [List.length_cons,List.length_nil] at h4 ⊢
  by_cases hi:i=k
  ·rw [if_neg (by omega)] at h1 h2 ⊢
   exact⟨by omega,fun _ _=>by omega⟩
  ·rw [if_pos hi] at h1 h2 ⊢
   exact⟨by omega,fun h5 h6=>by have:=h2 (by omega) (by omega);omega⟩
theorem Dx (xs:List UInt8) (hn:xs.Nodup) (i j:Nat) (hi:i<xs.length) (hj:j<xs.length) (h:xs.getD i 0=xs.getD j 0):i=j:=by
 simp only [List.getD_eq_getElem?_getD,List.getElem?_eq_getElem hi,List.getElem?_eq_getElem hj,Option.getD_some] at h
 have hp:=List.pairwise_iff_getElem.1 hn
 rcases Nat.lt_trichotomy i j with g|g|g
 ·exact absurd h (hp i j hi hj g)
 ·exact g
 ·exact absurd h.symm (hp j i hj hi g)
theorem Bd (xs ys:List UInt8) (hn:xs.Nodup) (j:Nat) (hj:j<xs.length):∀(f k:Nat) (out:List UInt8),k+f=xs.length→aB (xs.getD j 0) (Nz xs ys f k out)=aB (xs.getD j 0) out^^^(if k≤j then ys.getD j 0 else 0)
 |0,k,out,h=>by rw [Nz,if_neg (by omega)];simp
 | f+1,k,out,h=>by
  rw [Nz,Bd xs ys hn j hj f (k+1) _ (by omega),dU]
  have hne:∀m,m<xs.length→m≠k→xs.getD m 0≠xs.getD k 0:=fun m hm hmk e=>by
   have hk:k<xs.length:=by omega
   exact hmk (Dx xs hn m k hm hk e)
  by_cases hjk:j=k
  ·have h1:=wm (xs.getD j 0) (xs.getD k 0) k (by rw [hjk]) xs 0 [ys.getD k 0] fun m hm hmk=>hne m hm (by omega)
   rw [h1,fV,if_neg (by omega),if_pos (by omega),hjk]
   simp
  ·have h1:=(wn (xs.getD j 0) (xs.getD k 0) k xs 0 [ys.getD k 0]).2 j hj (by omega) rfl
   rw [h1]
   by_cases hlt:k≤j
   ·rw [if_pos (by omega),if_pos hlt];simp
   ·rw [if_neg (by omega),if_neg hlt];simp
theorem Iv (xs ys:List UInt8):∀(f k:Nat) (out:List UInt8),k+f=xs.length→sz out≤xs.length→sz (Nz xs ys f k out)≤xs.length
 |0,k,out,_,h=>h
 |f+1,k,out,hk,h=>by
  rw [Nz]
  refine Iv xs ys f (k+1) _ (by omega) (gv _ _ _ h ?_)
  have h1:=(Iw (xs.getD k 0) k xs 0 [ys.getD k 0]).2 (Nat.zero_le _) (by omega)
  have h2:=jU [ys.getD k 0]
  simp only [List.length_cons,List.length_nil] at h2
  omega
theorem wl (xs ys:List UInt8):∀(f k:Nat) (out:List UInt8),aF out=out→aF (Nz xs ys f k out)=Nz xs ys f k out
 |0,k,out,h=>h
 |f+1,k,out,_=>wl xs ys f (k+1) _ (gz _ _)
theorem fe (xs ys:List UInt8) (hn:xs.Nodup) (j:Nat) (hj:j<xs.length):aB (xs.getD j 0) (fq xs ys)=ys.getD j 0:=by
 unfold fq
 rw [Bd xs ys hn j hj _ _ _ (by omega),if_pos (by omega)]
 show 0^^^_=_
 simp
theorem mO (xs ys:List UInt8):sz (fq xs ys)≤xs.length:=Iv xs ys _ _ _ (by omega) (Nat.zero_le _)
theorem fp (xs ys:List UInt8):aF (fq xs ys)=fq xs ys:=wl xs ys _ _ _ rfl
theorem pq (xs ys:List UInt8) (h:bv xs ys):e8 xs ys=fq xs ys:=by
 rw [←fp]
 exact vV xs ys _ h (mO xs ys) fun k hk=>fe xs ys h.1 k hk
theorem iO (l:List UInt8) (n k:Nat) (h:k<n):(l.take n).getD k 0=l.getD k 0:=by
 simp [List.getD_eq_getElem?_getD,List.getElem?_take,h]
theorem qH (a b:List UInt8) (n:Nat) (h:bv a b):bv (a.take n) (b.take n):=
 ⟨h.1.sublist (List.take_sublist _ _),by rw [List.length_take,List.length_take,h.2]⟩
theorem gw {p:List UInt8} (h:aF p=p):sz p=p.length:=by unfold sz;rw [h]
theorem l6 (a b:List UInt8) (h:sz a<sz b):sz (dC [a,b])=sz b:=by
 have hb:aF b≠ []:=fun e=>by have:=l4.2 e;omega
 have h1:sz (dC [a,b])=sz b-1+1:=P6 (fun i hi=>by rw [nj,ed a i (by omega),ed b i (by omega)];rfl) (by
  rw [nj,ed a _ (by omega),UInt8.zero_xor]
  exact fZ b hb)
 omega
theorem Oh (a b:List UInt8) (hb:aF b≠ []) (h:sz b≤sz a):sz (bO a b)+sz b=sz a+1:=by
 have h1:=ui a b hb
 have h2:=uj a b hb
 have h0:0<sz b:=List.length_pos_iff.2 hb
 have ha:sz (dC [aw (bO a b) b,aF (en a b).2])=sz a:=by
  show sz (dC [aw (aF (en a b).1) b,aF (en a b).2])=sz a
  rw [h1,l5]
 have hq:aF (bO a b)≠ []:=fun e=>by
  have h3:aw (bO a b) b= []:=gY _ _ e
  have h4:=gv (aw (bO a b) b) (aF (en a b).2) (sz b-1) (by rw [h3];exact Nat.zero_le _) (by rw [l5];omega)
  omega
 have h5:=kJ (bO a b) b hq hb
 have hq0:0<sz (bO a b):=List.length_pos_iff.2 hq
 have h6:sz (dC [aw (bO a b) b,aF (en a b).2])=sz (aw (bO a b) b):=by
  have e:dC [aw (bO a b) b,aF (en a b).2]=dC [aF (en a b).2,aw (bO a b) b]:=by
   refine(gz _ _).symm.trans ((fh _ _ fun i=> ?_).trans (gz _ _))
   rw [nj,nj,UInt8.xor_comm]
  rw [e]
  exact l6 _ _ (by rw [l5];omega)
 omega
structure EuInv (xs ys:List UInt8) (m:Int) (a b u v:List UInt8):Prop where
 ta:aF a=a
 tb:aF b=b
 tu:aF u=u
 tv:aF v=v
 ea:∀k,k<xs.length→aB (xs.getD k 0) a=aI (aB (xs.getD k 0) u) (ys.getD k 0)
 eb:∀k,k<xs.length→aB (xs.getD k 0) b=aI (aB (xs.getD k 0) v) (ys.getD k 0)
 lt:sz b<sz a
 uv:sz u<sz v
 sum:sz v+sz a=xs.length+2
 big:m≤2*dw a
theorem Qu (xs ys:List UInt8) (hxs:xs.length≤10000) (m:Int) (hm:0≤m):∀(f:Nat) (a b u v:List UInt8),sz b<f→EuInv xs ys m a b u v→
  ∃b' v',eu f m a b u v=some (b',v')∧aF v'≠ []∧2*dw b'<m∧m+2*dw v'≤2*xs.length∧∀k,k<xs.length→aB (xs.getD k 0) b'=aI (aB (xs.getD k 0) v') (ys.getD k 0)
 |0,a,b,u,v,h,_=>by omega
 | f+1,a,b,u,v,h,I=>by
  have h1:=I.sum
  have h2:=I.lt
  have h3:=I.uv
  have hsm:jX a∧jX b∧jX u∧jX v:=by
   have e1:=gw I.ta
   have e2:=gw I.tb
   have e3:=gw I.tu
   have e4:=gw I.tv
   unfold jX
   omega
  unfold eu
  rw [if_pos hsm]
  by_cases hb:2*dw b<m
  ·rw [if_pos hb]
   refine⟨b,v,rfl,fun e=> ?_,hb,?_,I.eb⟩
   ·have:=l4.2 e;omega
   ·have:=I.big
    rw [jE] at this ⊢
    omega
  ·rw [if_neg hb]
   have hb0:aF b≠ []:=fun e=>by
    have:=l4.2 e
    rw [jE] at hb
    omega
   rw [if_neg hb0]
   have hr:=uj a b hb0
   have hq:=Oh a b hb0 (by omega)
   have hv0:aF v≠ []:=fun e=>by have:=l4.2 e;omega
   have hq0:aF (bO a b)≠ []:=fun e=>by have:=l4.2 e;omega
   have hqv:=kJ (bO a b) v hq0 hv0
   have hsv:sz (dC [u,aw (bO a b) v])=sz (aw (bO a b) v):=l6 _ _ (by omega)
   have hrem:sz (uk a b)=sz (en a b).2:=l5 _
   refine Qu xs ys hxs m hm f b (uk a b) v (dC [u,aw (bO a b) v]) (by rw [hrem];omega) ⟨I.tb,gu _,I.tv,gz _ _,I.eb,fun k hk=> ?_,by rw [hrem];exact hr,by omega,by omega,by omega⟩
   have hd:=congrArg (aB (xs.getD k 0)) (ui a b hb0)
   rw [dU,be,au (xs.getD k 0) a] at hd
   have e1:aB (xs.getD k 0) (uk a b)=aB (xs.getD k 0) a^^^aI (aB (xs.getD k 0) (bO a b)) (aB (xs.getD k 0) b):=by
    rw [←hd]
    show _=(aI (aB (xs.getD k 0) (bO a b)) (aB (xs.getD k 0) b)^^^aB (xs.getD k 0) (uk a b))^^^_
    have:∀x y:UInt8,y=x^^^y^^^x:=fun x y=>by
     have:x^^^y^^^x=y^^^(x^^^x):=by ac_rfl
     rw [this];simp
    exact this _ _
   rw [e1,I.ea k hk,I.eb k hk,dU,be,bX,←eI]
theorem Jl (xs ys:List UInt8) (h:bv xs ys) (d:Int) (hd:d<xs.length):EuInv xs ys (xs.length+d+1) (ar xs) (e8 xs ys) [] [1] where
 ta:=nZ _ (fun p x=>fb _ _) _ _ gr
 tb:=sJ xs ys
 tu:=rfl
 tv:=gr
 ea k hk:=by
  rw [jf xs _ (by simp [List.getElem?_eq_getElem hk])]
  exact(bM _).symm
 eb k hk:=by
  rw [pr xs ys h k hk,fV,jp]
 lt:=by
  have h1:=(eE xs).2
  have h2:=pB xs ys
  omega
 uv:=by
  have:sz [1]=1:=by unfold sz;rw [gr];rfl
  rw [this];exact Nat.zero_lt_one
 sum:=by
  have h1:=(eE xs).2
  have:sz [1]=1:=by unfold sz;rw [gr];rfl
  omega
 big:=by
  have h1:=(eE xs).2
  rw [jE]
  omega
def mb (xs:List UInt8) (d w:Int):Prop:=¬(d<0∨w<0∨(xs.length:Int)≤d∨((xs.length:Int)-d-1)/2<w)
theorem Oj (xs ys:List UInt8) (hr:bv xs ys) (hxs:xs.length≤10000) (d w:Int) (hc:mb xs d w):
  ∃b v,ac xs ys d w=lY xs ys d w b v∧aF v≠ []∧2*dw b<xs.length+d+1∧d+1+2*dw v≤xs.length∧∀k,k<xs.length→aB (xs.getD k 0) b=aI (aB (xs.getD k 0) v) (ys.getD k 0):=by
 unfold mb at hc
 have h1:=pB xs ys
 obtain⟨b,v,he,hv,hb,hs,hk⟩:=Qu xs ys hxs (xs.length+d+1) (by omega) 20000 _ _ _ _ (by omega) (Jl xs ys hr d (by omega))
 refine⟨b,v,?_,hv,hb,by omega,hk⟩
 unfold ac
 rw [if_pos hr,if_neg hc,he]
theorem ul (xs ys:List UInt8) (d w:Int) (b v:List UInt8) (hv:aF v≠ []):
  (lY xs ys d w b v=some ([], [],17))∨(lY xs ys d w b v=some (bO b v,dt (bO b v) xs ys xs.length,0)∧dw (bO b v)≤d∧((dt (bO b v) xs ys xs.length).length:Int)≤w):=by
 unfold lY
 rw [if_neg hv]
 split
 ·exact .inl rfl
 ·split
  ·exact .inl rfl
  ·split
   ·exact .inl rfl
   ·exact .inr ⟨rfl,by omega,by omega⟩
theorem nh (xs ys:List UInt8) (hr:bv xs ys) (hxs:xs.length≤10000) (d w:Int) (hc:mb xs d w):
  ac xs ys d w=some ([], [],17)∨∃p,ac xs ys d w=some (p,dt p xs ys xs.length,0)∧aF p=p∧dw p≤d∧((dt p xs ys xs.length).length:Int)≤w:=by
 obtain⟨b,v,he,hv,hb,hs,hk⟩:=Oj xs ys hr hxs d w hc
 rw [he]
 rcases ul xs ys d w b v hv with h|⟨h1,h2,h3⟩
 ·exact .inl h
 ·exact .inr ⟨bO b v,h1,gu _,h2,h3⟩
theorem Jt (xs ys:List UInt8) (hxs:xs.length≤10000) (d w:Int):(ac xs ys d w).isSome=true:=by
 by_cases hr:bv xs ys
 ·by_cases hc:mb xs d w
  ·rcases nh xs ys hr hxs d w hc with h|⟨p,h,_⟩<;>rw [h]<;>rfl
  ·unfold mb at hc
   unfold ac
   rw [if_pos hr,if_pos (nw hc)]
   rfl
 ·unfold ac
  rw [if_neg hr]
  rfl
theorem Jv {xs ys:List UInt8} {d w:Int} (hxs:xs.length≤10000):((lX xs ys d w).1.length:Int)≤max 0 (d+1):=by
 unfold lX
 by_cases hr:bv xs ys
 ·by_cases hc:mb xs d w
  ·rcases nh xs ys hr hxs d w hc with h|⟨p,h,h1,h2,_⟩<;>rw [h]
   ·show((0:Nat):Int)≤_
    omega
   ·show(p.length:Int)≤_
    have e:p.length=sz p:=(gw h1).symm
    rw [jE] at h2
    omega
  ·unfold mb at hc
   unfold ac
   rw [if_pos hr,if_pos (nw hc)]
   show((0:Nat):Int)≤_
   omega
 ·unfold ac
  rw [if_neg hr]
  show((0:Nat):Int)≤_
  omega
open Go
def ck (f:Nat→UInt8) (n k:Nat):List UInt8:=(List.range n).map fun i=>if i<k then f i else 0
theorem jv (f:Nat→UInt8) (n k:Nat):(ck f n k).length=n:=by simp [ck]
theorem iQ (f:Nat→UInt8) (n:Nat):ck f n 0=List.replicate n 0:=by
 apply List.ext_getElem
 ·simp [ck]
 ·intro i h1 h2;simp [ck]
theorem iR (f:Nat→UInt8) {n k:Nat} (h:k<n):(ck f n k).set k (f k)=ck f n (k+1):=by
 apply List.ext_getElem
 ·simp [ck]
 ·intro i h1 h2
  rw [List.getElem_set]
  simp only [ck,List.getElem_map,List.getElem_range]
  by_cases e:k=i
  ·subst e;simp
  ·rw [if_neg e]
   by_cases g:i<k
   ·rw [if_pos g,if_pos (by omega)]
   ·rw [if_neg g,if_neg (by omega)]
theorem jw (f:Nat→UInt8) (n:Nat):ck f n n=(List.range n).map f:=by
 apply List.map_congr_left
 intro i hi
 rw [List.mem_range] at hi
 rw [if_pos hi]
def nF (c:UInt8) (s:List UInt8) (i:Nat):UInt8:=aI c (s.getD i 0)
def cF (c:UInt8) (s:List UInt8):List UInt8:=(List.range s.length).map (nF c s)
def vb (a b:List UInt8) (i:Nat):UInt8:=if i<b.length then a.getD i 0^^^b.getD i 0 else a.getD i 0
def vg (a b:List UInt8):List UInt8:=(List.range a.length).map (vb a b)
def cU (a b:List UInt8):List UInt8:=if a.length<b.length then vg b a else vg a b
theorem bw (c:UInt8) (s:List UInt8):(cF c s).length=s.length:=by simp [cF]
theorem cM (a b:List UInt8):(cU a b).length=max a.length b.length:=by
 unfold cU
 split<;>simp [vg]<;>omega
def Se:List V→Option (Prop×V×List Blk)
 |[.int .i64 k,.rp false .u8 c 0,.rp false .str s 0]=>some (0≤k∧k<(s.length:Int),.u8 (nF c s k.toNat), [])
 |_=>none
theorem aCI (k:Int) (c:UInt8) (s:List UInt8):ap (En L6 tys G6 []) Tryd.f81 [.k] Se [.int .i64 k,.rp false .u8 c 0,.rp false .str s 0]:=by
 rintro⟨hp0,hp1⟩
 refine⟨by kernel_rfl,ix k s.length,trivial,?_⟩
 exact ao
def Vk:List (Nat×bI):=(81,aS [.v (.int .i64),.ref .u8,.ref .str] Se)::L6
theorem aBP:Known Tryd.prog (En Vk tys G6 []):=Yk.addQ Tryd.func81 Tryd.call81 [.k] fun ds _ _ _ h=>by unfold Se at h;split at h;exact aCI _ _ _;cases h
def Sc:List V→Option (Prop×V×List Blk)
 |[.int .i64 k,.rp false .str b 0,.rp false .str a 0]=>some (0≤k∧k<(a.length:Int),.u8 (vb a b k.toNat), [])
 |_=>none
theorem aCH (k:Int) (b a:List UInt8):ap (En Vk tys G6 []) Tryd.f35 [.k] Sc [.int .i64 k,.rp false .str b 0,.rp false .str a 0]:=by
 rintro⟨hp0,hp1⟩
 refine yn (k<(b.length:Int)) (fun h0=> ?_) fun h0=> ?_
 ·refine⟨by kernel_rfl,ix k a.length,ix k b.length,?_⟩
  rw [show vb a b k.toNat=_ from if_pos (by omega)]
  exact ao
 ·refine⟨ix k a.length,?_⟩
  rw [show vb a b k.toNat=_ from if_neg (by omega)]
  exact ao
def Px:List (Nat×bI):=(35,aS [.v (.int .i64),.ref .str,.ref .str] Sc)::Vk
theorem aBO:Known Tryd.prog (En Px tys G6 []):=aBP.addQ Tryd.func35 Tryd.call35 [.k] fun ds _ _ _ h=>by unfold Sc at h;split at h;exact aCH _ _ _;cases h
theorem Zq (z:Int) (c:UInt8) (s:List UInt8) (hp0:z=(s.length:Int)) (hp1:s.length≤1000000000):bL (En Px tys G6 []) Tryd.f34 [.k] [.int .i64 z,.fn 81 [.rp false .u8 c 0,.rp false .str s 0]] (.str (cF c s)) []:=by
 refine⟨⟨rfl,om ((0:Int)≤z),om (z≤(1000000000:Int))⟩,0, [(1,.k),(5,.o .u8),(9,.k),(10,.k)],fun nM vs H=>∃(k:Nat),(k:Int)≤z∧nM=z.toNat-k∧vs= [.fn 81 [.rp false .u8 c 0,.rp false .str s 0],.own .u8 0,.int .i64 z,.int .i64 (k:Int)]∧H= [.row true .u8 (ck (nF c s) z.toNat k)],⟨rfl,z.toNat,0,by omega,by omega,rfl,by rw [iQ];rfl⟩,?_⟩
 rintro nM vs H ⟨k,hc1_0,rfl,rfl,rfl⟩
 refine yn ((k:Int)<z) (fun h0=> ?_) fun h0=> ?_
 ·have hl:=jv (nF c s) z.toNat k
  refine⟨rfl,⟨om (0≤(k:Int)),om ((k:Int)<(s.length:Int))⟩,ix k (ck (nF c s) z.toNat k).length,fN,aj (k+1),?_⟩
  exact⟨rfl,z.toNat-(k+1),by omega,k+1,by omega,rfl,rfl,by rw [←iR _ (by omega:k<z.toNat)];rfl⟩
 ·rw [show k=z.toNat by omega,jw,show z.toNat=s.length by omega]
  exact ao
theorem Zp (z:Int) (b a:List UInt8) (hp0:z=(a.length:Int)) (hp1:a.length≤1000000000):bL (En Px tys G6 []) Tryd.f34 [.k] [.int .i64 z,.fn 35 [.rp false .str b 0,.rp false .str a 0]] (.str (vg a b)) []:=by
 refine⟨⟨rfl,om ((0:Int)≤z),om (z≤(1000000000:Int))⟩,0, [(1,.k),(5,.o .u8),(9,.k),(10,.k)],fun nM vs H=>∃(k:Nat),(k:Int)≤z∧nM=z.toNat-k∧vs= [.fn 35 [.rp false .str b 0,.rp false .str a 0],.own .u8 0,.int .i64 z,.int .i64 (k:Int)]∧H= [.row true .u8 (ck (vb a b) z.toNat k)],⟨rfl,z.toNat,0,by omega,by omega,rfl,by rw [iQ];rfl⟩,?_⟩
 rintro nM vs H ⟨k,hc1_0,rfl,rfl,rfl⟩
 refine yn ((k:Int)<z) (fun h0=> ?_) fun h0=> ?_
 ·have hl:=jv (vb a b) z.toNat k
  refine⟨rfl,⟨om (0≤(k:Int)),om ((k:Int)<(a.length:Int))⟩,ix k (ck (vb a b) z.toNat k).length,fN,aj (k+1),?_⟩
  exact⟨rfl,z.toNat-(k+1),by omega,k+1,by omega,rfl,rfl,by rw [←iR _ (by omega:k<z.toNat)];rfl⟩
 ·rw [show k=z.toNat by omega,jw,show z.toNat=a.length by omega]
  exact ao
def Xl:List V→Option (Prop×V×List Blk)
 |[.int .i64 z,.fn 81 [.rp false .u8 c 0,.rp false .str s 0]]=>some (z=(s.length:Int)∧s.length≤1000000000,.str (cF c s), [])
 |[.int .i64 z,.fn 35 [.rp false .str b 0,.rp false .str a 0]]=>some (z=(a.length:Int)∧a.length≤1000000000,.str (vg a b), [])
 |_=>none
def Vl:List (Nat×bI):=(34,aS [.v (.int .i64),.fn [(81, [.ref .u8,.ref .str]),(35, [.ref .str,.ref .str])]] Xl)::Px
theorem aBQ:Known Tryd.prog (En Vl tys G6 []):=aBO.add Tryd.func34 Tryd.call34 [.k] fun ds p v bs h hp=>by
 unfold Xl at h
 split at h<;>simp only [Option.some.injEq,Prod.mk.injEq,reduceCtorEq] at h
 ·obtain⟨rfl,rfl,rfl⟩:=h
  exact Zq _ _ _ hp.1 hp.2
 ·obtain⟨rfl,rfl,rfl⟩:=h
  exact Zp _ _ _ hp.1 hp.2
def G4:List V→Option (Prop×V×List Blk)
 |[.u8 c,.str s]=>some (s.length≤1000000000,.str (cF c s), [])
 |_=>none
theorem Zo (c:UInt8) (s:List UInt8):ap (En Vl tys G6 []) Tryd.f45 [.k] G4 [.u8 c,.str s]:=by
 intro hp0
 refine⟨rfl,⟨om ((s.length:Int)=(s.length:Int)),om (s.length≤1000000000)⟩,?_⟩
 exact ao
def L2:List (Nat×bI):=(45,aS [.v .u8,.v .str] G4)::Vl
theorem Yj:Known Tryd.prog (En L2 tys G6 []):=aBQ.addQ Tryd.func45 Tryd.call45 [.k] fun ds _ _ _ h=>by unfold G4 at h;split at h;exact Zo _ _;cases h
def G3:List V→Option (Prop×V×List Blk)
 |[.str a,.str b]=>some (a.length≤1000000000∧b.length≤1000000000,.str (cU a b), [])
 |_=>none
theorem Zn (a b:List UInt8):ap (En L2 tys G6 []) Tryd.f11 [.k] G3 [.str a,.str b]:=by
 rintro⟨hp0,hp1⟩
 refine yn ((a.length:Int)<(b.length:Int)) (fun h0=> ?_) fun h0=> ?_
 ·refine⟨jP,jP,rfl,⟨om ((b.length:Int)=(b.length:Int)),om (b.length≤1000000000)⟩,?_⟩
  rw [show cU a b=vg b a from if_pos (by omega)]
  exact ao
 ·refine⟨rfl,⟨om ((a.length:Int)=(a.length:Int)),om (a.length≤1000000000)⟩,?_⟩
  rw [show cU a b=vg a b from if_neg (by omega)]
  exact ao
def L1:List (Nat×bI):=(11,aS [.v .str,.v .str] G3)::L2
theorem Yi:Known Tryd.prog (En L1 tys G6 []):=Yj.addQ Tryd.func11 Tryd.call11 [.k] fun ds _ _ _ h=>by unfold G3 at h;split at h;exact Zn _ _;cases h
theorem s5 {α:Type} (d:α) (l:List α) (k:Nat) (h:k<l.length):l.drop k=l.getD k d::l.drop (k+1):=by
 rw [List.drop_eq_getElem_cons h]
 simp [List.getD_eq_getElem?_getD,h]
theorem oI {α:Type} (d:α) (l:List α) (k:Nat) (h:k<l.length):l.take (k+1)=l.take k++ [l.getD k d]:=by
 rw [List.take_succ_eq_append_getElem h]
 simp [List.getD_eq_getElem?_getD,h]
theorem getD_mem {α:Type} (d:α) (l:List α) (k:Nat) (h:k<l.length):l.getD k d∈l:=by
 simp [List.getD_eq_getElem?_getD,h]
theorem ff {α:Type} {d:α} {l:List α} {x:α} (h:x∈l):∃k,k<l.length∧l.getD k d=x:=by
 obtain⟨k,hk,e⟩:=List.mem_iff_getElem.1 h
 exact⟨k,hk,by simp [List.getD_eq_getElem?_getD,hk,e]⟩
theorem dz {α:Type} {d:α} {p:α→Bool} {l:List α} {k:Nat} (hk:k<l.length) (hc:(l.drop k).all p=l.all p) (h:p (l.getD k d)=false):l.all p=false:=by
 rw [←hc,s5 d l k hk,List.all_cons,h,Bool.false_and]
theorem ie {α:Type} {d:α} {p:α→Bool} {l:List α} {k:Nat} (hk:k<l.length) (hc:(l.drop k).all p=l.all p) (h:p (l.getD k d)=true):(l.drop (k+1)).all p=l.all p:=by
 rw [←hc,s5 d l k hk,List.all_cons,h,Bool.true_and]
theorem mo {α:Type} {p:α→Bool} {l:List α} {k:Nat} (hk:l.length≤k) (hc:(l.drop k).all p=l.all p):l.all p=true:=by
 rw [←hc,List.drop_eq_nil_of_le hk];rfl
theorem ng {α:Type} {l r:List α} {x d:α} {k:Nat} (h:l.drop k=x::r):k<l.length∧l.getD k d=x∧l.drop (k+1)=r:=by
 have hk:k<l.length:=by
  rcases Nat.lt_or_ge k l.length with g|g
  ·exact g
  ·rw [List.drop_eq_nil_of_le g] at h;cases h
 rw [s5 d l k hk] at h
 injection h with h1 h2
 exact⟨hk,h1,h2⟩
theorem mZ {α:Type} {l:List α} {k:Nat} (hk:k≤l.length) (h:l.drop k= []):k=l.length:=by
 have:=List.drop_eq_nil_iff.1 h;omega

abbrev Rw:=List (List UInt8)
def Gb (l:Rw):List UInt8:=(l.drop 1).foldl cU (l.getD 0 [])
theorem sx {N:Nat}:∀(l:Rw) (s:List UInt8),s.length≤N→(∀x∈l,x.length≤N)→(l.foldl cU s).length≤N
 |[],s,h,_=>h
 |x::l,s,h,hl=>sx l (cU s x) (by rw [cM];have:=hl x (by simp);omega) fun y hy=>hl y (by simp [hy])
theorem zL (l:Rw) (s:List UInt8) (k:Nat) (h:k<l.length):(l.take (k+1)).foldl cU s=cU ((l.take k).foldl cU s) (l.getD k []):=by
 rw [oI [] l k h,List.foldl_append];rfl
def dy:Rw→UInt8→List UInt8
 |[],_=> []
 |[s],_=>s
 |s::t::r,x=>cU (cF x (dy (t::r) x)) s
theorem Kl (l:Rw) (x:UInt8) (k:Nat) (h:k+1<l.length):dy (l.drop k) x=cU (cF x (dy (l.drop (k+1)) x)) (l.getD k []):=by
 rw [s5 [] l k (by omega),s5 [] l (k+1) h]
 rfl
theorem Kk (l:Rw) (x:UInt8) (h:1≤l.length):dy (l.drop (l.length-1)) x=l.getD (l.length-1) []:=by
 rw [s5 [] l (l.length-1) (by omega),show l.length-1+1=l.length by omega,List.drop_length];rfl
theorem B9 {N:Nat}:∀(l:Rw) (x:UInt8),(∀s∈l,s.length≤N)→(dy l x).length≤N
 |[],x,_=>Nat.zero_le _
 |[s],x,h=>h s (by simp)
 |s::t::r,x,h=>by
  rw [dy,cM,bw]
  have h1:=B9 (t::r) x fun y hy=>h y (by simp [hy])
  have h2:=h s (by simp)
  omega
theorem rP {α:Type} {P:α→Prop} {l:List α} (h:∀s∈l,P s) (k:Nat):∀s∈l.drop k,P s:=fun s hs=>h s (List.mem_of_mem_drop hs)
theorem zx {a b:List UInt8} {N:Nat} (h1:a.length≤N) (h2:b.length≤N):∀s∈ [a,b],s.length≤N:=fun s hs=>by
 rcases List.mem_cons.1 hs with e|hs
 ·rw [e];exact h1
 ·rw [List.mem_singleton.1 hs];exact h2
def pt (h:Int):UInt8:=UInt8.ofNat ((h+1)%256).toNat
def n0 (r:Rw):Nat:=(r.getD 0 []).length
def av (r:Rw):Bool:=decide (1≤r.length)&&decide (r.length<12)&&r.all fun s=>decide (s.length=n0 r)&&decide (s.length≤4096)
theorem mD {r:Rw} (h:av r=true):1≤r.length∧r.length<12∧(∀s∈r,s.length=n0 r)∧n0 r≤4096:=by
 unfold av at h
 simp only [Bool.and_eq_true,decide_eq_true_eq,List.all_eq_true] at h
 obtain⟨⟨h1,h2⟩,h3⟩:=h
 refine⟨h1,h2,fun s hs=>(h3 s hs).1,?_⟩
 have:=h3 _ (getD_mem [] r 0 (by omega))
 exact this.2
theorem Da {r:Rw} (h:av r=true):∀s∈r,s.length≤4096:=fun s hs=>by
 obtain⟨_,_,h3,h4⟩:=mD h
 rw [h3 s hs];exact h4
theorem sT {r:Rw} (h:r.length<1∨12≤r.length):av r=false:=by
 unfold av
 rcases h with h|h
 ·rw [decide_eq_false (by omega:¬1≤r.length)];rfl
 ·rw [decide_eq_false (by omega:¬r.length<12)];simp
theorem kQ {r:Rw} (h1:1≤r.length) (h2:r.length<12):av r=r.all fun s=>decide (s.length=n0 r)&&decide (s.length≤4096):=by
 unfold av
 rw [decide_eq_true h1,decide_eq_true h2];rfl
def zd (a b:Rw):Prop:=a.length=b.length∧n0 a=n0 b
instance (a b:Rw):Decidable (zd a b):=by unfold zd;infer_instance
def Uw (a:Rw) (h:Int) (b:Rw) (o:Int):Prop:=dy a (pt o)=dy b (pt h)
instance (a:Rw) (h:Int) (b:Rw) (o:Int):Decidable (Uw a h b o):=by unfold Uw;infer_instance
def fJ (h:Int):Prop:=0≤h∧h<12
instance (h:Int):Decidable (fJ h):=by unfold fJ;infer_instance
def tU (r:Rw) (h:Int):Int:=if av r=true then(if fJ h then 0 else 8) else 1
def cr (r:Rw) (h:Int):List UInt8:=if tU r h=0 then dy r (pt h) else []
def agE (a:Rw) (h:Int) (b:Rw) (o:Int):Int:=if av a=true∧av b=true∧zd a b then(if fJ h∧fJ o then 0 else 8) else 1
def agQ (a:Rw) (h:Int) (b:Rw) (o:Int):Prop:=agE a h b o=0∧Uw a h b o
instance (a:Rw) (h:Int) (b:Rw) (o:Int):Decidable (agQ a h b o):=by unfold agQ;infer_instance
def Sb:List V→Option (Prop×V×List Blk)
 |[.int .i64 h]=>some (True,.b (fJ h), [])
 |_=>none
theorem aCF (h:Int):ap (En L1 tys G6 []) Tryd.f69 [.k] Sb [.int .i64 h]:=by
 intro _
 refine yn (0≤h) (fun h0=> ?_) fun h0=> ?_
 ·exact⟨rfl,rfl,congrArg V.b (propext (by unfold fJ;constructor<;>intro g<;>first|omega|exact Bool.noConfusion g|(exfalso;omega))),rfl⟩
 ·exact⟨rfl,rfl,congrArg V.b (propext (by unfold fJ;constructor<;>intro g<;>first|omega|exact Bool.noConfusion g|(exfalso;omega))),rfl⟩
def Vg:List (Nat×bI):=(69,aS [.v (.int .i64)] Sb)::L1
theorem aBK:Known Tryd.prog (En Vg tys G6 []):=Yi.addQ Tryd.func69 Tryd.call69 [.k] fun ds _ _ _ h=>by unfold Sb at h;split at h;exact aCF _;cases h
def Gv:List V→Option (Prop×V×List Blk)
 |[.sl false .str l]=>some (1≤l.length∧l.length≤1000000∧(∀x∈l,x.length≤1048576),.str (Gb l), [])
 |_=>none
theorem Ze (l:List (List UInt8)):ap (En Vg tys G6 []) Tryd.f72 [.k] Gv [.sl false .str l]:=by
 rintro⟨hp0,hp1,(hp2:(∀x∈l,x.length≤1048576))⟩
 have hld:(l.drop 1).length=l.length-1:=List.length_drop ..
 have hm0:(l.getD 0 []).length≤1048576:=hp2 _ (getD_mem [] l 0 (by omega))
 refine⟨ix 0 l.length,⟨by omega,by omega⟩,0, [(3,.k),(10,.k),(11,.k),(12,.k)],fun nM vs H=>∃(k:Nat),k≤(l.drop 1).length∧nM=(l.drop 1).length-k∧vs= [.str (((l.drop 1).take k).foldl cU (l.getD 0 [])),.sl false .str (l.drop 1),.int .i64 (((l.drop 1).length:Nat):Int),.int .i64 (k:Int)]∧H= [],⟨rfl,(l.drop 1).length,0,by omega,by omega,rfl,rfl⟩,?_⟩
 rintro nM vs H ⟨k,hc1_0,rfl,rfl,rfl⟩
 refine yn ((k:Int)<(((l.drop 1).length:Nat):Int)) (fun h0=> ?_) fun h0=> ?_
 ·have hs:((l.drop 1).drop k)=(l.drop 1).drop k:=rfl
  have hm1:=sx (N:=1048576) ((l.drop 1).take k) (l.getD 0 []) hm0 fun x hx=>rP hp2 1 x (List.mem_of_mem_take hx)
  have hm2:=rP hp2 1 _ (getD_mem [] (l.drop 1) k (by omega))
  refine⟨ix k (l.drop 1).length,⟨os ((((l.drop 1).take k).foldl cU (l.getD 0 [])).length≤1000000000),os (((l.drop 1).getD k []).length≤1000000000)⟩,aj (k+1),?_⟩
  exact⟨rfl,(l.drop 1).length-(k+1),by omega,k+1,by omega,rfl,by rw [zL _ _ _ (by omega:k<(l.drop 1).length)];rfl,rfl⟩
 ·rw [show Gb l=((l.drop 1).take k).foldl cU (l.getD 0 []) by rw [List.take_of_length_le (by omega)];rfl]
  exact ao
def Lx:List (Nat×bI):=(72,aS [.v (.sl .str)] Gv)::Vg
theorem Ye:Known Tryd.prog (En Lx tys G6 []):=aBK.addQ Tryd.func72 Tryd.call72 [.k] fun ds _ _ _ h=>by unfold Gv at h;split at h;exact Ze _;cases h
def V2:List V→Option (Prop×V×List Blk)
 |[.sl false .str l,.u8 x]=>some (1≤l.length∧l.length≤1000000∧(∀x∈l,x.length≤1048576),.str (dy l x), [])
 |_=>none
theorem bAt (l:List (List UInt8)) (x:UInt8):ap (En Lx tys G6 []) Tryd.f70 [.k] V2 [.sl false .str l,.u8 x]:=by
 rintro⟨hp0,hp1,(hp2:(∀x∈l,x.length≤1048576))⟩
 refine⟨aj (l.length-1),ix (l.length-1) l.length,aj (l.length-2),0, [(0,.k),(1,.k),(5,.k),(6,.k)],fun nM vs H=>∃(k:Nat),k<l.length∧nM=k+1∧vs= [.sl false .str l,.u8 x,.str (dy (l.drop k) x),.int .i64 ((k:Int)-1)]∧H= [],⟨rfl,l.length-1+1,l.length-1,by omega,by omega,by rw [Kk l x hp0,show((l.length-1:Nat):Int)-1=(l.length:Int)-2 by omega,show l.length-1=((l.length:Int)-1).toNat by omega];rfl,rfl⟩,?_⟩
 rintro nM vs H ⟨k,hc1_0,rfl,rfl,rfl⟩
 refine yn (0≤((k:Int)-1)) (fun h0=> ?_) fun h0=> ?_
 ·obtain⟨j,hj⟩:∃j,k=j+1:=⟨k-1,by omega⟩
  have ek:((k:Int)-1).toNat=j:=by omega
  have hl1:=B9 (N:=1048576) (l.drop k) x (rP hp2 k)
  have hl2:=hp2 _ (getD_mem [] l j (by omega))
  refine⟨by kernel_rfl,os ((dy (l.drop k) x).length≤1000000000),ix (k-1) l.length,⟨os (1≤([cF x (dy (l.drop k) x),l.getD (((k:Int)-1).toNat) []]:List (List UInt8)).length),os (([cF x (dy (l.drop k) x),l.getD (((k:Int)-1).toNat) []]:List (List UInt8)).length≤1000000),by rw [ek];exact zx (by rw [bw];exact hl1) hl2⟩,aj (((k:Int)-1)-1),?_⟩
  exact⟨rfl,j+1,by omega,j,by omega,rfl,by(subst hj;have ej:((j+1:Nat):Int)-1=(j:Int):=(by omega);rw [ej,Kl l x j (by omega)];rfl),rfl⟩
 ·rw [show k=0 by omega]
  exact ao
def Vy:List (Nat×bI):=(70,aS [.v (.sl .str),.v .u8] V2)::Lx
theorem kAt:Known Tryd.prog (En Vy tys G6 []):=Ye.addQ Tryd.func70 Tryd.call70 [.k] fun ds _ _ _ h=>by unfold V2 at h;split at h;exact bAt _ _;cases h
def Rx:List V→Option (Prop×V×List Blk)
 |[.sl false .str r]=>some (r.length≤1048576,.b (av r=true), [])
 |_=>none
theorem aBx (r:List (List UInt8)):ap (En Vy tys G6 []) Tryd.f71 [.k] Rx [.sl false .str r]:=by
 intro hp0
 refine ny ((r.length:Int)<1) (fun h0=> ?_) fun h0=> ?_
 ·refine yn (12≤(r.length:Int)) (fun h1=> ?_) fun h1=> ?_
  ·rw [sT (r:=r) (.inr (by omega))]
   exact ao
  ·have hall:=kQ (r:=r) (by omega) (by omega)
   refine⟨0, [(0,.k),(13,.k),(14,.k),(15,.k)],fun nM vs H=>∃(k:Nat),k≤r.length∧(r.drop k).all (fun s=>decide (s.length=n0 r)&&decide (s.length≤4096))=r.all (fun s=>decide (s.length=n0 r)&&decide (s.length≤4096))∧nM=r.length-k∧vs= [.sl false .str r,.sl false .str r,.i (r.length:Int),.i k]∧H= [],⟨rfl,r.length,0,by omega,rfl,by omega,rfl,rfl⟩,?_⟩
   rintro nM vs H ⟨k,hc1_0,hc1_1,rfl,rfl,rfl⟩
   refine yn ((k:Int)<(r.length:Int)) (fun h2=> ?_) fun h2=> ?_
   ·have hk:k<r.length:=by omega
    refine⟨ix k r.length,ix 0 r.length,ny ((((r.getD k []).length:Nat):Int)≠(((r.getD 0 []).length:Nat):Int)) (fun h3=> ?_) fun h3=> ?_⟩
    ·refine yn (4096<(((r.getD k []).length:Nat):Int)) (fun h4=> ?_) fun h4=> ?_
     ·have e:av r=false:=by rw [hall];exact dz (d:= []) hk hc1_1 (by show(decide ((r.getD k []).length=n0 r)&&decide ((r.getD k []).length≤4096))=false;rw [decide_eq_false (by omega:¬(r.getD k []).length≤4096),Bool.and_false])
      rw [e]
      exact ao
     ·have hok:(decide ((r.getD k []).length=n0 r)&&decide ((r.getD k []).length≤4096))=true:=by rw [decide_eq_true (by unfold n0;omega:(r.getD k []).length=n0 r),decide_eq_true (by omega:(r.getD k []).length≤4096)];rfl
      refine⟨aj (k+1),?_⟩
      exact⟨rfl,r.length-(k+1),by omega,k+1,by omega,ie (d:= []) hk hc1_1 hok,rfl,rfl,rfl⟩
    ·have e:av r=false:=by rw [hall];exact dz (d:= []) hk hc1_1 (by show(decide ((r.getD k []).length=n0 r)&&decide ((r.getD k []).length≤4096))=false;rw [decide_eq_false (by unfold n0;omega:¬(r.getD k []).length=n0 r),Bool.false_and])
     rw [e]
     exact ao
   ·have e:av r=true:=by rw [hall];exact mo (by omega) hc1_1
    rw [e]
    exact ao
 ·rw [sT (r:=r) (.inl (by omega))]
  exact ao
def U7:List (Nat×bI):=(71,aS [.v (.sl .str)] Rx)::Vy
theorem aBC:Known Tryd.prog (En U7 tys G6 []):=kAt.addQ Tryd.func71 Tryd.call71 [.k] fun ds _ _ _ h=>by unfold Rx at h;split at h;exact aBx _;cases h
def m6 (cf:List Rw):Nat:=n0 (cf.getD 0 [])
def iK (cf:List Rw) (l:Rw):Bool:=decide (l.length=cf.length)&&decide ((cf.getD 0 []).length=cf.length)&&l.all fun s=>decide (s.length=m6 cf)
def Ga (cf:List Rw) (m:Nat):Bool:=(List.range m).all fun a=>(List.range a).all fun b=>decide ((cf.getD a []).getD b []=(cf.getD b []).getD a [])
def dE (dj:Int) (cf:List Rw):Int:=
 if dj<2∨12<dj then 3 else if(cf.length:Int)≠dj-1 then 1 else if cf.all (iK cf)=false then 1 else if 4096<m6 cf then 2 else if Ga cf cf.length=false then 1 else 0
structure Deal (dj:Int) (cf:List Rw):Prop where
 n2:2≤dj
 n12:dj≤12
 len:(cf.length:Int)=dj-1
 rows:∀l∈cf,l.length=cf.length
 strs:∀l∈cf,∀s∈l,s.length=m6 cf
 max:m6 cf≤4096
 sym:∀a b,a<cf.length→b<cf.length→(cf.getD a []).getD b []=(cf.getD b []).getD a []
theorem oC {α:Type} {p:α→Bool} {l:List α} (h:¬l.all p=false):∀x∈l,p x=true:=fun x hx=>by
 have:l.all p=true:=by simpa using h
 exact List.all_eq_true.1 this x hx
theorem s6 {dj:Int} {cf:List Rw} (h:dE dj cf=0):Deal dj cf:=by
 unfold dE at h
 split at h
 ·cases h
 ·split at h
  ·cases h
  ·split at h
   ·cases h
   ·split at h
    ·cases h
    ·split at h
     ·cases h
     ·rename_i h1 h2 h3 h4 h5
      have h3:=oC h3
      have hl:∀l∈cf,l.length=cf.length∧∀s∈l,s.length=m6 cf:=fun l hl=>by
       have:=h3 l hl
       unfold iK at this
       simp only [Bool.and_eq_true,decide_eq_true_eq,List.all_eq_true] at this
       exact⟨this.1.1,this.2⟩
      have hs:∀a b,a<cf.length→b<a→(cf.getD a []).getD b []=(cf.getD b []).getD a []:=fun a b ha hb=>by
       have:=oC h5 a (List.mem_range.2 ha)
       simp only [List.all_eq_true,decide_eq_true_eq] at this
       exact this b (List.mem_range.2 hb)
      refine⟨by omega,by omega,by omega,fun l h=>(hl l h).1,fun l h=>(hl l h).2,by omega,fun a b ha hb=> ?_⟩
      rcases Nat.lt_trichotomy a b with g|g|g
      ·exact(hs b a hb g).symm
      ·subst g;rfl
      ·exact hs a b ha g
def g9 (cf:List Rw) (h:Int):Rw:=cf.map fun l=>dy l (pt h)
def nG (dj:Int) (cf:List Rw) (h:Int):Int:=if dE dj cf=0 then(if fJ h then 0 else 8) else dE dj cf
def rowL (dj:Int) (cf:List Rw) (h:Int):Rw:=if nG dj cf h=0 then g9 cf h else []
theorem ca {α β:Type} (d:α) (f:α→β) (l:List α) (k:Nat) (h:k<l.length):(l.take (k+1)).map f=(l.take k).map f++ [f (l.getD k d)]:=by
 rw [oI d l k h,List.map_append];rfl

theorem jh {p:Nat→Bool} {k m:Nat} (hk:k<m) (h:p k=false):(List.range m).all p=false:=by
 rw [Bool.eq_false_iff]
 intro e
 rw [List.all_eq_true.1 e k (List.mem_range.2 hk)] at h
 cases h
theorem wJ {p:Nat→Bool} {k:Nat} (h:(List.range k).all p=true) (hk:p k=true):(List.range (k+1)).all p=true:=by
 rw [List.range_succ,List.all_append,h,List.all_cons,hk];rfl
theorem D7 {cf:List Rw} {l:Rw} (h:¬l.length=cf.length):iK cf l=false:=by unfold iK;rw [decide_eq_false h,Bool.false_and,Bool.false_and]
theorem D6 {cf:List Rw} {l:Rw} (h:¬(cf.getD 0 []).length=cf.length):iK cf l=false:=by unfold iK;rw [decide_eq_false h,Bool.and_false,Bool.false_and]
theorem D5 {cf:List Rw} {l:Rw} (h:(l.all fun s=>decide (s.length=m6 cf))=false):iK cf l=false:=by unfold iK;rw [h,Bool.and_false]
theorem qh {cf:List Rw} {l:Rw} (h1:l.length=cf.length) (h2:(cf.getD 0 []).length=cf.length) (h:(l.all fun s=>decide (s.length=m6 cf))=true):iK cf l=true:=by unfold iK;rw [h,decide_eq_true h1,decide_eq_true h2];rfl
theorem Iy {cf:List Rw} (h:cf.all (iK cf)=true):∀l∈cf,l.length=cf.length:=fun l hl=>by
 have:=List.all_eq_true.1 h l hl
 unfold iK at this
 simp only [Bool.and_eq_true,decide_eq_true_eq] at this
 exact this.1.1

def lF (h:Int) (b:List UInt8) (rows:List Rw):List UInt8:=rows.foldl (fun s r=>cU s (cF (pt h) (r.getD 0 []))) b
def fF (b:List UInt8) (r:Rw):Bool:=av r&&decide (n0 r=b.length)
def fg (h:Int) (b:List UInt8) (rows:List Rw):Int:=if fJ h then(if b.length≤4096 then(if rows.all (fF b)=true then 0 else 1) else 2) else 8
theorem zt {h:Int} {b:List UInt8}:∀(rows:List Rw) (s:List UInt8),s.length=b.length→(∀r∈rows,fF b r=true)→(lF h s rows).length=b.length
 |[],s,hs,_=>hs
 |r::rows,s,hs,hr=>by
  have h1:=hr r (by simp)
  unfold fF at h1
  simp only [Bool.and_eq_true,decide_eq_true_eq] at h1
  have h2:(r.getD 0 []).length=b.length:=h1.2
  exact zt rows _ (by rw [cM,bw];omega) fun x hx=>hr x (by simp [hx])

theorem Fh {h:Int} {b:List UInt8} {rows:List Rw} {k:Nat} (hk:k<rows.length):lF h b (rows.take (k+1))=cU (lF h b (rows.take k)) (cF (pt h) ((rows.getD k []).getD 0 [])):=by
 unfold lF
 rw [oI [] rows k hk,List.foldl_append];rfl
def rq (h:Int) (b:List UInt8) (rows:List Rw):Int:=if fg h b rows=0 then h else 0
def m7 (h:Int) (b:List UInt8) (rows:List Rw):List UInt8:=if fg h b rows=0 then lF h b rows else []
theorem yI {b:List UInt8} {r:Rw} (h:¬av r=true):fF b r=false:=by unfold fF;rw [Bool.eq_false_iff.2 h];rfl
theorem yH {b:List UInt8} {r:Rw} (h:¬n0 r=b.length):fF b r=false:=by unfold fF;rw [decide_eq_false h,Bool.and_false]
theorem m8 {b:List UInt8} {r:Rw} (h1:av r=true) (h:n0 r=b.length):fF b r=true:=by unfold fF;rw [h1,decide_eq_true h];rfl
theorem Fj {b:List UInt8} {r:Rw} (h:fF b r=true):av r=true∧n0 r=b.length:=by
 unfold fF at h
 simp only [Bool.and_eq_true,decide_eq_true_eq] at h
 exact h

def vR (m k:Nat):List UInt8:=(List.replicate m 0).set k 1
def Rq:List V→Option (Prop×V×List Blk)
 |[.sl false .str r,.int .i64 h]=>some (r.length≤1048576,.tup [.str (cr r h),.int .i64 (tU r h)], [])
 |_=>none
theorem aBp (r:List (List UInt8)) (h:Int):ap (En U7 tys G6 []) Tryd.f52 [.k,.k] Rq [.sl false .str r,.int .i64 h]:=by
 intro hp0
 refine⟨om (r.length≤1048576),yn (¬(av r=true)) (fun h0=> ?_) fun h0=> ?_⟩
 ·have e:tU r h=1:=if_neg h0
  rw [cr,if_neg (by rw [e];decide),e]
  exact ao
 ·have hr:=nw h0
  obtain⟨r1,r2,r3,r4⟩:=mD hr
  have r5:∀x∈r,x.length≤1048576:=fun s hs=>Nat.le_trans (Da hr s hs) (by omega)
  refine⟨rfl,trivial,yn (¬(fJ h)) (fun h1=> ?_) fun h1=> ?_⟩
  ·have e:tU r h=8:=by unfold tU;rw [if_pos hr,if_neg h1]
   rw [cr,if_neg (by rw [e];decide),e]
   exact ao
  ·have hk:=nw h1
   obtain⟨k1,k2⟩:=id hk
   refine⟨aj (h+1),⟨om (1≤r.length),om (r.length≤1000000),by first|assumption|simp⟩,?_⟩
   have e:tU r h=0:=by unfold tU;rw [if_pos hr,if_pos hk]
   rw [cr,if_pos e,e]
   exact ao
def U2:List (Nat×bI):=(52,aS [.v (.sl .str),.v (.int .i64)] Rq)::U7
theorem aA5:Known Tryd.prog (En U2 tys G6 []):=aBC.addQ Tryd.func52 Tryd.call52 [.k,.k] fun ds _ _ _ h=>by unfold Rq at h;split at h;exact aBp _ _;cases h
def qD:List V→Option (Prop×V×List Blk)
 |[.agg [.int .i64 nd,.sl false (.sl .str) cf]]=>some (cf.length≤1048576∧(∀l∈cf,l.length≤1048576∧∀x∈l,x.length≤1048576),.int .i64 (dE nd cf), [])
 |_=>none
theorem Kh (nd:Int) (cf:List (List (List UInt8))):ap (En U2 tys G6 []) Tryd.f68 [.k] qD [.agg [.int .i64 nd,.sl false (.sl .str) cf]]:=by
 rintro⟨hp0,(hp1:(∀l∈cf,l.length≤1048576∧∀x∈l,x.length≤1048576))⟩
 refine ny (nd<2) (fun h0=> ?_) fun h0=> ?_
 ·refine yn (12<nd) (fun h1=> ?_) fun h1=> ?_
  ·have e:dE nd cf=3:=by unfold dE;rw [if_pos (by omega)]
   rw [e]
   exact ao
  ·refine⟨aj (nd-1),yn ((cf.length:Int)≠(nd-1)) (fun h2=> ?_) fun h2=> ?_⟩
   ·have e:dE nd cf=1:=by unfold dE;rw [if_neg (by omega:¬(nd<2∨12<nd)),if_pos (by omega)]
    rw [e]
    exact ao
   ·refine⟨1, [(1,.k),(3,.k),(27,.k),(28,.k),(29,.k)],fun nM vs H=>∃(k:Nat),k≤cf.length∧(cf.drop k).all (iK cf)=cf.all (iK cf)∧nM=cf.length-k∧vs= [.p 0,.i (nd-1),.sl false (.sl .str) cf,.i (cf.length:Int),.i k]∧H= [.cells [.i nd,.sl false (.sl .str) cf]],⟨rfl,cf.length,0,by omega,rfl,by omega,rfl,rfl⟩,?_⟩
    rintro nM vs H ⟨k,hc1_0,hc1_1,rfl,rfl,rfl⟩
    refine yn ((k:Int)<(cf.length:Int)) (fun h3=> ?_) fun h3=> ?_
    ·have hk:k<cf.length:=by omega
     have hpk:=(hp1 _ (getD_mem [] cf k hk)).1
     refine⟨ix k cf.length,ny ((((cf.getD k []).length:Nat):Int)≠(nd-1)) (fun h4=> ?_) fun h4=> ?_⟩
     ·refine⟨ix 0 cf.length,yn ((((cf.getD 0 []).length:Nat):Int)≠(nd-1)) (fun h5=> ?_) fun h5=> ?_⟩
      ·have hf:cf.all (iK cf)=false:=dz (d:= []) hk hc1_1 (D6 (by omega))
       have e:dE nd cf=1:=by unfold dE;rw [if_neg (by omega:¬(nd<2∨12<nd)),if_neg (by omega:¬((cf.length:Int)≠nd-1)),if_pos hf]
       rw [e]
       exact ao
      ·refine⟨1, [(1,.k),(3,.k),(27,.k),(28,.k),(29,.k),(46,.k),(47,.k),(48,.k)],fun nM vs H=>∃(j:Nat),j≤(cf.getD k []).length∧((cf.getD k []).drop j).all (fun s=>decide (s.length=m6 cf))=(cf.getD k []).all (fun s=>decide (s.length=m6 cf))∧nM=(cf.getD k []).length-j∧vs= [.p 0,.i (nd-1),.sl false (.sl .str) cf,.i (cf.length:Int),.i k,.sl false .str (cf.getD k []),.i (((cf.getD k []).length:Nat):Int),.i j]∧H= [.cells [.i nd,.sl false (.sl .str) cf]],⟨rfl,(cf.getD k []).length,0,by omega,rfl,by omega,rfl,rfl⟩,?_⟩
       rintro nM vs H ⟨j,hc2_0,hc2_1,rfl,rfl,rfl⟩
       refine yn ((j:Int)<(((cf.getD k []).length:Nat):Int)) (fun h6=> ?_) fun h6=> ?_
       ·have hj:j<(cf.getD k []).length:=by omega
        refine⟨ix j (cf.getD k []).length,ix 0 cf.length,ix 0 (cf.getD 0 []).length,yn (((((cf.getD k []).getD j []).length:Nat):Int)≠((((cf.getD 0 []).getD 0 []).length:Nat):Int)) (fun h7=> ?_) fun h7=> ?_⟩
        ·have hf:cf.all (iK cf)=false:=dz (d:= []) hk hc1_1 (D5 (dz (d:= []) hj hc2_1 (decide_eq_false (by unfold m6 n0;omega))))
         have e:dE nd cf=1:=by unfold dE;rw [if_neg (by omega:¬(nd<2∨12<nd)),if_neg (by omega:¬((cf.length:Int)≠nd-1)),if_pos hf]
         rw [e]
         exact ao
        ·have hok:decide (((cf.getD k []).getD j []).length=m6 cf)=true:=decide_eq_true (by unfold m6 n0;omega)
         refine⟨aj (j+1),?_⟩
         exact⟨rfl,(cf.getD k []).length-(j+1),by omega,j+1,by omega,ie (d:= []) hj hc2_1 hok,rfl,rfl,rfl⟩
       ·have hok:=qh (cf:=cf) (l:=cf.getD k []) (by omega) (by omega) (mo (by omega) hc2_1)
        refine⟨aj (k+1),?_⟩
        exact⟨rfl,cf.length-(k+1),by omega,k+1,by omega,ie (d:= []) hk hc1_1 hok,rfl,rfl,rfl⟩
     ·have hf:cf.all (iK cf)=false:=dz (d:= []) hk hc1_1 (D7 (by omega))
      have e:dE nd cf=1:=by unfold dE;rw [if_neg (by omega:¬(nd<2∨12<nd)),if_neg (by omega:¬((cf.length:Int)≠nd-1)),if_pos hf]
      rw [e]
      exact ao
    ·have hall:cf.all (iK cf)=true:=mo (by omega) hc1_1
     have hrows:=Iy hall
     have h00:=hrows _ (getD_mem [] cf 0 (by omega))
     refine⟨ix 0 cf.length,ix 0 (cf.getD 0 []).length,yn (4096<((((cf.getD 0 []).getD 0 []).length:Nat):Int)) (fun h8=> ?_) fun h8=> ?_⟩
     ·have e:dE nd cf=2:=by unfold dE;rw [if_neg (by omega:¬(nd<2∨12<nd)),if_neg (by omega:¬((cf.length:Int)≠nd-1)),if_neg (by rw [hall];decide),if_pos (by unfold m6 n0;omega)]
      rw [e]
      exact ao
     ·refine⟨1, [(1,.k),(72,.k),(73,.k)],fun nM vs H=>∃(i:Nat),i≤cf.length∧(List.range i).all (fun a=>(List.range a).all fun b=>decide ((cf.getD a []).getD b []=(cf.getD b []).getD a []))=true∧nM=cf.length-i∧vs= [.p 0,.i (nd-1),.i i]∧H= [.cells [.i nd,.sl false (.sl .str) cf]],⟨rfl,cf.length,0,by omega,rfl,by omega,rfl,rfl⟩,?_⟩
      rintro nM vs H ⟨i,hc3_0,hc3_1,rfl,rfl,rfl⟩
      refine yn ((i:Int)<(nd-1)) (fun h9=> ?_) fun h9=> ?_
      ·have hri:=hrows _ (getD_mem [] cf i (by omega))
       refine⟨1, [(1,.k),(8,.k),(72,.k),(73,.k),(76,.k),(77,.k)],fun nM vs H=>∃(j:Nat),j≤i∧(List.range j).all (fun b=>decide ((cf.getD i []).getD b []=(cf.getD b []).getD i []))=true∧nM=i-j∧vs= [.p 0,.i i,.i (nd-1),.i i,.i i,.i j]∧H= [.cells [.i nd,.sl false (.sl .str) cf]],⟨rfl,i,0,by omega,rfl,by omega,rfl,rfl⟩,?_⟩
       rintro nM vs H ⟨j,hc4_0,hc4_1,rfl,rfl,rfl⟩
       refine yn ((j:Int)<(i:Int)) (fun h10=> ?_) fun h10=> ?_
       ·have hrj:=hrows _ (getD_mem [] cf j (by omega))
        refine⟨by kernel_rfl,ix i cf.length,ix j (cf.getD i []).length,ix j cf.length,ix i (cf.getD j []).length,yn (((cf.getD i []).getD j [])≠((cf.getD j []).getD i [])) (fun h11=> ?_) fun h11=> ?_⟩
        ·have hs:Ga cf cf.length=false:=jh (k:=i) (by omega) (jh (p:=(fun b=>decide ((cf.getD i []).getD b []=(cf.getD b []).getD i []))) (k:=j) (by omega) (decide_eq_false h11))
         have e:dE nd cf=1:=by unfold dE;rw [if_neg (by omega:¬(nd<2∨12<nd)),if_neg (by omega:¬((cf.length:Int)≠nd-1)),if_neg (by rw [hall];decide),if_neg (by unfold m6 n0;omega),if_pos hs]
         rw [e]
         exact ao
        ·have hok:decide ((cf.getD i []).getD j []=(cf.getD j []).getD i [])=true:=decide_eq_true (nw h11)
         refine⟨aj (j+1),?_⟩
         exact⟨rfl,i-(j+1),by omega,j+1,by omega,wJ hc4_1 hok,rfl,rfl,rfl⟩
       ·have hok:(List.range i).all (fun b=>decide ((cf.getD i []).getD b []=(cf.getD b []).getD i []))=true:=by rw [show i=j by omega] at hc4_1 ⊢;exact hc4_1
        refine⟨aj (i+1),?_⟩
        exact⟨rfl,cf.length-(i+1),by omega,i+1,by omega,wJ hc3_1 hok,rfl,rfl,rfl⟩
      ·have hs:Ga cf cf.length=true:=by rw [show cf.length=i by omega];exact hc3_1
       have e:dE nd cf=0:=by unfold dE;rw [if_neg (by omega:¬(nd<2∨12<nd)),if_neg (by omega:¬((cf.length:Int)≠nd-1)),if_neg (by rw [hall];decide),if_neg (by unfold m6 n0;omega),if_neg (by rw [hs];decide)]
       rw [e]
       exact ao
 ·have e:dE nd cf=3:=by unfold dE;rw [if_pos (by omega)]
  rw [e]
  exact ao
def rk:List (Nat×bI):=(68,aS [.v (.cons (.int .i64) (.cons (.sl (.sl .str)) .nil))] qD)::U2
theorem I2:Known Tryd.prog (En rk tys G6 []):=aA5.addQ Tryd.func68 Tryd.call68 [.k] fun ds _ _ _ h=>by unfold qD at h;split at h;exact Kh _ _;cases h
def Rv:List V→Option (Prop×V×List Blk)
 |[.agg [.int .i64 nd,.sl false (.sl .str) cf],.int .i64 h]=>some (cf.length≤1048576∧(∀l∈cf,l.length≤1048576∧∀x∈l,x.length≤1048576),.tup [.sl true .str (rowL nd cf h),.int .i64 (nG nd cf h)], [])
 |_=>none
theorem aBw (nd:Int) (cf:List (List (List UInt8))) (h:Int):ap (En rk tys G6 []) Tryd.f31 [.d .str,.k] Rv [.agg [.int .i64 nd,.sl false (.sl .str) cf],.int .i64 h]:=by
 rintro⟨hp0,(hp1:(∀l∈cf,l.length≤1048576∧∀x∈l,x.length≤1048576))⟩
 refine⟨rfl,⟨om (cf.length≤1048576),by first|assumption|simp⟩,yn ((dE nd cf)≠0) (fun h0=> ?_) fun h0=> ?_⟩
 ·have e:nG nd cf h=dE nd cf:=if_neg h0
  rw [rowL,if_neg (by rw [e];exact h0),e]
  exact ao
 ·have hc:=nw h0
  have hd:=s6 hc
  obtain⟨d1,d2,d3,d4,d5,d6,d7⟩:=id hd
  refine⟨rfl,trivial,yn (¬(fJ h)) (fun h1=> ?_) fun h1=> ?_⟩
  ·have e:nG nd cf h=8:=by unfold nG;rw [if_pos hc,if_neg h1]
   rw [rowL,if_neg (by rw [e];decide),e]
   exact ao
  ·have hk:=nw h1
   obtain⟨k1,k2⟩:=id hk
   refine⟨1, [(1,.k),(7,.o .str),(19,.k),(20,.k),(21,.k)],fun nM vs H=>∃(k:Nat),k≤cf.length∧nM=cf.length-k∧vs= [.i h,.own .str 1,.sl false (.sl .str) cf,.i (cf.length:Int),.i k]∧H= [.cells [.i nd,.sl false (.sl .str) cf],.r .str ((cf.take k).map fun l=>dy l (pt h))],⟨rfl,cf.length,0,by omega,by omega,rfl,rfl⟩,?_⟩
   rintro nM vs H ⟨k,hc1_0,rfl,rfl,rfl⟩
   refine yn ((k:Int)<(cf.length:Int)) (fun h2=> ?_) fun h2=> ?_
   ·have hkl:k<cf.length:=by omega
    have hm:=getD_mem [] cf k hkl
    have hr4:=d4 _ hm
    have hr5:∀x∈cf.getD k [],x.length≤1048576:=(hp1 _ hm).2
    have hml:((cf.take k).map fun l=>dy l (pt h)).length=k:=by rw [List.length_map,List.length_take];omega
    refine⟨ix k cf.length,aj (h+1),⟨os (1≤(cf.getD k []).length),os ((cf.getD k []).length≤1000000),by first|assumption|simp⟩,fN,l9 ((cf.take k).map fun l=>dy l (pt h)).length,aj (k+1),?_⟩
    exact⟨rfl,cf.length-(k+1),by omega,k+1,by omega,rfl,rfl,by rw [ca [] _ cf k hkl];rfl⟩
   ·have e:nG nd cf h=0:=by unfold nG;rw [if_pos hc,if_pos hk]
    rw [rowL,if_pos e,e,g9,show k=cf.length by omega,List.take_length]
    exact ao
def U6:List (Nat×bI):=(31,aS [.v (.cons (.int .i64) (.cons (.sl (.sl .str)) .nil)),.v (.int .i64)] Rv)::rk
theorem aBB:Known Tryd.prog (En U6 tys G6 []):=I2.addQ Tryd.func31 Tryd.call31 [.d .str,.k] fun ds _ _ _ h=>by unfold Rv at h;split at h;exact aBw _ _ _;cases h
def Rr:List V→Option (Prop×V×List Blk)
 |[.agg [.int .i64 h,.str bs],.sl false (.sl .str) rs]=>some (rs.length≤1048576∧(∀l∈rs,l.length≤1048576),.tup [.agg [.int .i64 (rq h bs rs),.str (m7 h bs rs)],.int .i64 (fg h bs rs)], [])
 |_=>none
theorem aBq (h:Int) (bs:List UInt8) (rs:List (List (List UInt8))):ap (En U6 tys G6 []) Tryd.f32 [.k,.k] Rr [.agg [.int .i64 h,.str bs],.sl false (.sl .str) rs]:=by
 rintro⟨hp0,(hp1:(∀l∈rs,l.length≤1048576))⟩
 refine⟨rfl,trivial,yn (¬(fJ h)) (fun h0=> ?_) fun h0=> ?_⟩
 ·refine⟨cm,?_⟩
  have e:fg h bs rs=8:=by unfold fg;rw [if_neg h0]
  rw [rq,m7,if_neg (by rw [e];decide),if_neg (by rw [e];decide),e]
  exact ao
 ·have hk:=nw h0
  obtain⟨k1,k2⟩:=id hk
  refine yn (4096<(bs.length:Int)) (fun h1=> ?_) fun h1=> ?_
  ·refine⟨cm,?_⟩
   have e:fg h bs rs=2:=by unfold fg;rw [if_pos hk,if_neg (by omega)]
   rw [rq,m7,if_neg (by rw [e];decide),if_neg (by rw [e];decide),e]
   exact ao
  ·refine⟨2, [(1,.k),(2,.k),(4,.k),(20,.k),(21,.k),(22,.k)],fun nM vs H=>∃(k:Nat),k≤rs.length∧(rs.drop k).all (fF bs)=rs.all (fF bs)∧nM=rs.length-k∧vs= [.sl false (.sl .str) rs,.p 0,.p 1,.sl false (.sl .str) rs,.i (rs.length:Int),.i k]∧H= [.cells [.i h,.str bs],.cells [.i 0,.str ([])]],⟨rfl,rs.length,0,by omega,rfl,by omega,rfl,rfl⟩,?_⟩
   rintro nM vs H ⟨k,hc1_0,hc1_1,rfl,rfl,rfl⟩
   refine yn ((k:Int)<(rs.length:Int)) (fun h2=> ?_) fun h2=> ?_
   ·have hkl:k<rs.length:=by omega
    have hrl:=hp1 _ (getD_mem [] rs k hkl)
    refine⟨ix k rs.length,by kernel_rfl,os ((rs.getD k []).length≤1048576),ny (¬(av (rs.getD k [])=true)) (fun h3=> ?_) fun h3=> ?_⟩
    ·have hr:=nw h3
     obtain⟨r1,r2,r3,r4⟩:=mD hr
     refine⟨fun h4=> ?_,cn (¬(av (rs.getD k [])=true))⟩
     refine⟨ix 0 (rs.getD k []).length,fun h5=> ?_,cn (¬(av (rs.getD k [])=true))⟩
     refine⟨fun h6=> ?_,cn (¬(av (rs.getD k [])=true))⟩
     refine⟨fun h7=> ?_,cn (¬(av (rs.getD k [])=true))⟩
     refine⟨fun h8=> ?_,cn (¬(av (rs.getD k [])=true))⟩
     refine⟨fun h9=> ?_,cn (¬(av (rs.getD k [])=true))⟩
     refine⟨fun h10=> ?_,cn (¬(av (rs.getD k [])=true))⟩
     refine⟨cn (¬(av (rs.getD k [])=true)),fun h11=> ?_⟩
     refine yn (((((rs.getD k []).getD 0 []).length:Nat):Int)≠(bs.length:Int)) (fun h12=> ?_) fun h12=> ?_
     ·refine⟨cm,?_⟩
      have hf:rs.all (fF bs)=false:=dz (d:= []) hkl hc1_1 (yH (by unfold n0;omega))
      have e:fg h bs rs=1:=by unfold fg;rw [if_pos hk,if_pos (by omega),if_neg (by rw [hf];decide)]
      rw [rq,m7,if_neg (by rw [e];decide),if_neg (by rw [e];decide),e]
      exact ao
     ·have hok:=m8 (b:=bs) hr (by unfold n0;omega)
      refine⟨aj (k+1),?_⟩
      exact⟨rfl,rs.length-(k+1),by omega,k+1,by omega,ie (d:= []) hkl hc1_1 hok,rfl,rfl,rfl⟩
    ·refine⟨cp (¬(av (rs.getD k [])=true)),fun h13=> ?_⟩
     refine⟨cp (¬(av (rs.getD k [])=true)),fun h14=> ?_⟩
     refine⟨cp (¬(av (rs.getD k [])=true)),fun h15=> ?_⟩
     refine⟨cp (¬(av (rs.getD k [])=true)),fun h16=> ?_⟩
     refine⟨cp (¬(av (rs.getD k [])=true)),fun h17=> ?_⟩
     refine⟨cp (¬(av (rs.getD k [])=true)),fun h18=> ?_⟩
     refine⟨cp (¬(av (rs.getD k [])=true)),fun h19=> ?_⟩
     refine⟨fun h20=> ?_,cp (¬(av (rs.getD k [])=true))⟩
     refine⟨cm,?_⟩
     have hf:rs.all (fF bs)=false:=dz (d:= []) hkl hc1_1 (yI h3)
     have e:fg h bs rs=1:=by unfold fg;rw [if_pos hk,if_pos (by omega),if_neg (by rw [hf];decide)]
     rw [rq,m7,if_neg (by rw [e];decide),if_neg (by rw [e];decide),e]
     exact ao
   ·have hall:rs.all (fF bs)=true:=mo (by omega) hc1_1
    have hev:=List.all_eq_true.1 hall
    refine⟨2, [(2,.k),(4,.k),(41,.k),(42,.k),(43,.k)],fun nM vs H=>∃(k:Nat),k≤rs.length∧nM=rs.length-k∧vs= [.p 0,.p 1,.sl false (.sl .str) rs,.i (rs.length:Int),.i k]∧H= [.cells [.i h,.str (lF h bs (rs.take k))],.cells [.i 0,.str ([])]],⟨rfl,rs.length,0,by omega,by omega,rfl,rfl⟩,?_⟩
    rintro nM vs H ⟨k,hc2_0,rfl,rfl,rfl⟩
    refine yn ((k:Int)<(rs.length:Int)) (fun h21=> ?_) fun h21=> ?_
    ·have hkm:k<rs.length:=by omega
     obtain⟨hr,hn⟩:=Fj (hev _ (getD_mem [] rs k hkm))
     obtain⟨r1,r2,r3,r4⟩:=mD hr
     have hl1:=zt (h:=h) (b:=bs) (rs.take k) bs rfl (fun x hx=>hev x (List.mem_of_mem_take hx))
     replace hn:((rs.getD k []).getD 0 []).length=bs.length:=hn
     refine⟨ix k rs.length,by kernel_rfl,aj (h+1),ix 0 (rs.getD k []).length,os (((rs.getD k []).getD 0 []).length≤1000000000),⟨os (1≤([lF h bs (rs.take k),cF (UInt8.ofNat ((h+1)%256).toNat) ((rs.getD k []).getD 0 [])]:List (List UInt8)).length),os (([lF h bs (rs.take k),cF (UInt8.ofNat ((h+1)%256).toNat) ((rs.getD k []).getD 0 [])]:List (List UInt8)).length≤1000000),by show(∀x∈([lF h bs (rs.take k),cF (UInt8.ofNat ((h+1)%256).toNat) ((rs.getD k []).getD 0 [])]:List (List UInt8)),x.length≤1048576);exact zx (by omega) (by rw [bw];omega)⟩,jP,aj (k+1),?_⟩
     exact⟨rfl,rs.length-(k+1),by omega,k+1,by omega,rfl,rfl,by rw [Fh hkm];rfl⟩
    ·refine⟨cm,?_⟩
     have e:fg h bs rs=0:=by unfold fg;rw [if_pos hk,if_pos (by omega),if_pos hall]
     rw [rq,m7,if_pos e,if_pos e,e,show lF h bs rs=lF h bs (rs.take k) by rw [List.take_of_length_le (by omega)]]
     exact ao
def sF:List (Nat×bI):=(32,aS [.v (.cons (.int .i64) (.cons .str .nil)),.v (.sl (.sl .str))] Rr)::U6
theorem aA6:Known Tryd.prog (En sF tys G6 []):=aBB.addQ Tryd.func32 Tryd.call32 [.k,.k] fun ds _ _ _ h=>by unfold Rr at h;split at h;exact aBq _ _ _;cases h
theorem Mf {P:Prop} {v:Go.Proofs.YtogipicegdbhdaaDoor.Vc.V} (h:((true=true)∧(true=true)∧(v=v)∧(([]:List Go.Proofs.YtogipicegdbhdaaDoor.Vc.Blk)= []))=P):P:=Eq.mp h ⟨rfl,rfl,rfl,rfl⟩
theorem Ao {nd sz:Int} (h2:2≤nd) (h12:nd≤12) (hz:0≤sz) (h4:sz≤4096):(0≤sz*(nd-1)∧sz*(nd-1)≤45056)∧(0≤(sz*(nd-1))*((nd-1)+1)∧(sz*(nd-1))*((nd-1)+1)≤540672)∧((sz*(nd-1))*((nd-1)+1))/2=sz*(((nd-1)*nd)/2):=by
 obtain rfl|rfl|rfl|rfl|rfl|rfl|rfl|rfl|rfl|rfl|rfl:nd=2∨nd=3∨nd=4∨nd=5∨nd=6∨nd=7∨nd=8∨nd=9∨nd=10∨nd=11∨nd=12:=by omega
 all_goals omega
theorem yy {p X Y:Prop} (h:p) (x:X):(p→X)∧(¬p→Y):=⟨fun _=>x,fun g=>absurd h g⟩
theorem nn {p X Y:Prop} (h:¬p) (y:Y):(p→X)∧(¬p→Y):=⟨fun g=>absurd g h,fun _=>y⟩
theorem ww {α β:Sort _} {a:α} {b:β}:a=a∧b=b:=⟨rfl,rfl⟩
theorem yE {α β γ:Sort _} {a:α} {b:β} {c:γ}:a=a∧b=b∧c=c:=⟨rfl,rfl,rfl⟩
theorem q {p:Prop} [d:Decidable p] (h:Decidable.decide p=true:=by kernel_rfl):p:=of_decide_eq_true h
def dn (z:Nat):Nat→List UInt8→List UInt8
 |0,s=>s
 |k+1,s=>(dn z k s).drop z
theorem Qw (z:Nat):∀(k:Nat) (s:List UInt8),dn z k s=s.drop (k*z)
 |0,s=>by simp [dn]
 |k+1,s=>by rw [dn,Qw z k s,List.drop_drop,Nat.succ_mul]
theorem uh (z k:Nat) (s:List UInt8):(dn z k s).length=s.length-k*z:=by rw [Qw,List.length_drop]
theorem xW {sz:Int} {s:List UInt8} (K:Nat) (h0:0≤sz) (hl:(s.length:Int)=sz*(K:Int)) (k:Nat) (hk:k<K:=by decide):0≤sz∧sz≤((dn sz.toNat k s).length:Int):=by
 refine⟨h0,?_⟩
 rw [uh]
 obtain⟨z,rfl⟩:=Int.eq_ofNat_of_zero_le h0
 have h1:s.length=z*K:=by exact_mod_cast hl
 have h2:(k+1)*z≤K*z:=Nat.mul_le_mul_right z hk
 rw [Nat.succ_mul] at h2
 rw [h1,Nat.mul_comm z K]
 show(z:Int)≤((K*z-k*z:Nat):Int)
 omega
def lM (m a b:Nat):Nat:=bif Nat.ble a b then a*m-a*(a-1)/2+(b-a) else b*m-b*(b-1)/2+(a-b)
def iw (m z:Nat) (s:List UInt8):List Rw:=(List.range m).map fun a=>(List.range m).map fun b=>(dn z (lM m a b) s).take z
def kp (nd sz:Int) (s:List UInt8):Int:=if nd<2∨12<nd∨sz<0∨4096<sz then 3 else if(s.length:Int)=sz*(((nd-1)*nd)/2) then 0 else 1
def jL (nd sz:Int) (s:List UInt8):Int:=if kp nd sz s=0 then nd else 0
def fH (nd sz:Int) (s:List UInt8):List Rw:=if kp nd sz s=0 then iw (nd-1).toNat sz.toNat s else []
theorem aAw {nd sz:Int} {s:List UInt8} (h:nd<2∨12<nd∨sz<0∨4096<sz):kp nd sz s=3∧jL nd sz s=0∧fH nd sz s= []:=by
 have e:kp nd sz s=3:=if_pos h
 refine⟨e,if_neg (by rw [e];decide),if_neg (by rw [e];decide)⟩
theorem aAx {nd sz:Int} {s:List UInt8} (h:¬(nd<2∨12<nd∨sz<0∨4096<sz)) (hl:(s.length:Int)≠sz*(((nd-1)*nd)/2)):kp nd sz s=1∧jL nd sz s=0∧fH nd sz s= []:=by
 have e:kp nd sz s=1:=by unfold kp;rw [if_neg h,if_neg hl]
 refine⟨e,if_neg (by rw [e];decide),if_neg (by rw [e];decide)⟩
theorem aAy {nd sz:Int} {s:List UInt8} (h:¬(nd<2∨12<nd∨sz<0∨4096<sz)) (hl:(s.length:Int)=sz*(((nd-1)*nd)/2)):kp nd sz s=0∧jL nd sz s=nd∧fH nd sz s=iw (nd-1).toNat sz.toNat s:=by
 have e:kp nd sz s=0:=by unfold kp;rw [if_neg h,if_pos hl]
 refine⟨e,if_pos e,if_pos e⟩
theorem aCE (nd sz:Int) (nz:List UInt8) (hn:nd<2∨12<nd∨sz<0∨4096<sz):bL (En sF tys G6 [] [1000000,1000001]) Tryd.f30 [.m 1 .str,.k] [.int .i64 nd,.int .i64 sz,.str nz] (.tup [.agg [.int .i64 0,.sl true (.sl .str) []],.int .i64 3]) []:=by
 refine ny (nd<2) (fun h0=> ?_) fun h0=> ?_
 ·refine ny (12<nd) (fun h1=> ?_) fun h1=> ?_
  ·refine ny (sz<0) (fun h2=> ?_) fun h2=> ?_
   ·refine yn (4096<sz) (fun h3=> ?_) fun h3=> ?_
    ·refine⟨cm,?_⟩
     exact Mf (v:= .tup [.agg [.int .i64 0,.sl true (.sl .str) []],.int .i64 3]) (by kernel_rfl)
    ·omega
   ·refine⟨cm,?_⟩
    exact Mf (v:= .tup [.agg [.int .i64 0,.sl true (.sl .str) []],.int .i64 3]) (by kernel_rfl)
  ·refine⟨cm,?_⟩
   exact Mf (v:= .tup [.agg [.int .i64 0,.sl true (.sl .str) []],.int .i64 3]) (by kernel_rfl)
 ·refine⟨cm,?_⟩
  exact Mf (v:= .tup [.agg [.int .i64 0,.sl true (.sl .str) []],.int .i64 3]) (by kernel_rfl)
theorem aB8 (nd sz:Int) (nz:List UInt8) (g2:2≤nd) (g12:nd≤12) (hz:0≤sz) (hs4:sz≤4096) (hb1:0≤sz*(nd-1)∧sz*(nd-1)≤45056) (hb2:0≤(sz*(nd-1))*((nd-1)+1)∧(sz*(nd-1))*((nd-1)+1)≤540672) (hl:¬(nz.length:Int)=((sz*(nd-1))*((nd-1)+1))/2):bL (En sF tys G6 [] [1000000,1000001]) Tryd.f30 [.m 1 .str,.k] [.int .i64 nd,.int .i64 sz,.str nz] (.tup [.agg [.int .i64 0,.sl true (.sl .str) []],.int .i64 1]) []:=by
 refine ny (nd<2) (fun h0=> ?_) fun h0=> ?_
 ·refine ny (12<nd) (fun h1=> ?_) fun h1=> ?_
  ·refine ny (sz<0) (fun h2=> ?_) fun h2=> ?_
   ·refine yn (4096<sz) (fun h3=> ?_) fun h3=> ?_
    ·omega
    ·refine⟨aj (nd-1),aj (sz*(nd-1)),aj ((nd-1)+1),aj ((sz*(nd-1))*((nd-1)+1)),.inl ⟨⟨om ((0:Int)≤((sz*(nd-1))*((nd-1)+1))),om ((0:Int)<2)⟩,?_⟩⟩
     refine yn ((nz.length:Int)≠(((sz*(nd-1))*((nd-1)+1))/2)) (fun h4=> ?_) fun h4=> ?_
     ·refine⟨cm,?_⟩
      exact Mf (v:= .tup [.agg [.int .i64 0,.sl true (.sl .str) []],.int .i64 1]) (by kernel_rfl)
     ·exact absurd (nw h4) hl
   ·omega
  ·omega
 ·omega
theorem aCD (sz:Int) (nz:List UInt8) (hz:0≤sz) (h1:sz≤4096) (hl:(nz.length:Int)=sz*((1:Nat):Int)):bL (En sF tys G6 [] [1000000,1000001]) Tryd.f30 [.m 1 .str,.k] [.int .i64 2,.int .i64 sz,.str nz] (.tup [.agg [.int .i64 2,.sl true (.sl .str) (iw 1 sz.toNat nz)],.int .i64 0]) []:=by
 have c:= @xW sz nz 1 hz hl
 refine⟨fun h0=> ?_,cn ((2:Int)<2)⟩
 refine⟨fun h1=> ?_,cn ((12:Int)<2)⟩
 refine ny (sz<0) (fun h2=> ?_) fun h2=> ?_
 ·refine yn (4096<sz) (fun h3=> ?_) fun h3=> ?_
  ·omega
  ·refine⟨q,aj (sz*1),q,aj ((sz*1)*2),.inl ⟨⟨om ((0:Int)≤((sz*1)*2)),om ((0:Int)<2)⟩,?_⟩⟩
   refine yn ((nz.length:Int)≠(((sz*1)*2)/2)) (fun h4=> ?_) fun h4=> ?_
   ·omega
   ·refine⟨⟨rfl,by decide,by decide⟩,cm,.inr ?_⟩
    refine yy q ?_
    refine⟨by kernel_rfl,⟨rfl,om ((0:Int)≤1),om (1≤(1000000000:Int))⟩,q,yE,q,nn q ?_⟩
    refine .inr (yy q ?_)
    refine .inr (yy q ?_)
    refine⟨by kernel_rfl,q,q,(c 0 q),(c 0 q),q,ww,q,ww,(c 0 q),q,nn q ?_⟩
    refine⟨q,nn q ?_⟩
    refine⟨cm,?_⟩
    exact Mf (v:= .tup [.agg [.int .i64 2,.sl true (.sl .str) (iw 1 sz.toNat nz)],.int .i64 0]) (by kernel_rfl)
 ·omega
theorem aCC (sz:Int) (nz:List UInt8) (hz:0≤sz) (h1:sz≤4096) (hl:(nz.length:Int)=sz*((3:Nat):Int)):bL (En sF tys G6 [] [1000000,1000001]) Tryd.f30 [.m 1 .str,.k] [.int .i64 3,.int .i64 sz,.str nz] (.tup [.agg [.int .i64 3,.sl true (.sl .str) (iw 2 sz.toNat nz)],.int .i64 0]) []:=by
 have c:= @xW sz nz 3 hz hl
 refine⟨fun h0=> ?_,cn ((3:Int)<2)⟩
 refine⟨fun h1=> ?_,cn ((12:Int)<3)⟩
 refine ny (sz<0) (fun h2=> ?_) fun h2=> ?_
 ·refine yn (4096<sz) (fun h3=> ?_) fun h3=> ?_
  ·omega
  ·refine⟨q,aj (sz*2),q,aj ((sz*2)*3),.inl ⟨⟨om ((0:Int)≤((sz*2)*3)),om ((0:Int)<2)⟩,?_⟩⟩
   refine yn ((nz.length:Int)≠(((sz*2)*3)/2)) (fun h4=> ?_) fun h4=> ?_
   ·omega
   ·refine⟨⟨rfl,by decide,by decide⟩,cm,.inr ?_⟩
    refine yy q ?_
    refine⟨by kernel_rfl,⟨rfl,om ((0:Int)≤2),om (2≤(1000000000:Int))⟩,q,yE,q,yy q ?_⟩
    refine⟨by kernel_rfl,⟨rfl,om ((0:Int)≤2),om (2≤(1000000000:Int))⟩,q,yE,q,nn q ?_⟩
    refine .inr (yy q ?_)
    refine .inr (yy q ?_)
    refine⟨by kernel_rfl,q,q,(c 0 q),(c 0 q),q,ww,q,ww,(c 0 q),q,yy q ?_⟩
    refine⟨by kernel_rfl,q,q,(c 1 q),(c 1 q),q,ww,q,ww,(c 1 q),q,nn q ?_⟩
    refine⟨q,yy q ?_⟩
    refine .inr (yy q ?_)
    refine⟨by kernel_rfl,q,q,(c 2 q),(c 2 q),q,ww,q,ww,(c 2 q),q,nn q ?_⟩
    refine⟨q,nn q ?_⟩
    refine⟨cm,?_⟩
    exact Mf (v:= .tup [.agg [.int .i64 3,.sl true (.sl .str) (iw 2 sz.toNat nz)],.int .i64 0]) (by kernel_rfl)
 ·omega
end Go.Proofs.YtogipicegdbhdaaDoor.S72
